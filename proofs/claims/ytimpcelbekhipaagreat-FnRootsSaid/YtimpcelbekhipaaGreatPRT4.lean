/-
  For every input the law FnRoots returns true, and its arguments read as before. No condition.
-/
import Derived.Test.YtimpcelbekhipaaGreatPRT3
import Derived.Test.YtimpcelbekhipaaGreatRows
set_option linter.unusedVariables false
section
namespace Go.Z
def gapS (d : Int) (a : Int × Int) : Int := a.1 + a.2 - (figLog (d, 0)).1 - (figLog (d, 0)).2
/-- the tens whose logarithm is nearest -/
def tenS (g : Int) : Int := if 1048576 < g - 2097152 * fl g 2097152 then fl g 2097152 + 1 else fl g 2097152
def plc (d : Int) (a : Int × Int) : (Int × Int) × Int := figOr (d, tenS (gapS d a))
def xCode (fr to : Int) (a : Bool) : Int := if a = false then 1 else if ordS fr = 0 ∨ ordS to = 0 then 2 else 0
def plO (fr to : Int) (f rd : Int × Int) : (Int × Int) × Int :=
  if (isFig f.1 f.2 && isFig rd.1 rd.2) = false then ((0, 0), 1) else if ordS fr = 0 ∨ ordS to = 0 then ((0, 0), 2) else plc rd.1 (scaleD (figLog f) (powS fr to).1 (powS fr to).2)
theorem pow_bd {fr to : Int} (h : ¬ ordS fr = 0) : (-3 ≤ (powS fr to).1 ∧ (powS fr to).1 ≤ 3) ∧ (1 ≤ (powS fr to).2 ∧ (powS fr to).2 ≤ 3) := by
  have a := ord_bd fr
  have b := ord_bd to
  unfold powS; split <;> (dsimp only; omega)
theorem scaleD_bd {a : Int × Int} {n d : Int} (h1 : -40000000 ≤ a.1 ∧ a.1 ≤ 40000000) (h2 : -40000000 ≤ a.2 ∧ a.2 ≤ 40000000) (hn : -3 ≤ n ∧ n ≤ 3) (hd : 0 < d) :
    (-130000000 ≤ (scaleD a n d).1 ∧ (scaleD a n d).1 ≤ 130000000) ∧ (-130000000 ≤ (scaleD a n d).2 ∧ (scaleD a n d).2 ≤ 130000000) := by
  obtain ⟨x1, x2⟩ := mul_bd a.1 n 40000000 3 h1.1 h1.2 hn.1 hn.2
  obtain ⟨y1, y2⟩ := mul_bd a.2 n 40000000 3 h2.1 h2.2 hn.1 hn.2
  have u := fl_bd (min (a.1 * n) (a.2 * n)) d 120000000 (by omega) (by omega) (by omega)
  have v := cl_bd (max (a.1 * n) (a.2 * n)) d 120000000 (by omega) (by omega) (by omega)
  unfold scaleD; dsimp only; omega
theorem gap_bd {d : Int} {a : Int × Int} (h1 : 1000 ≤ d) (h2 : d ≤ 9999) (ha : (-130000000 ≤ a.1 ∧ a.1 ≤ 130000000) ∧ (-130000000 ≤ a.2 ∧ a.2 ≤ 130000000)) : -300000000 ≤ gapS d a ∧ gapS d a ≤ 300000000 := by
  have h := figLog_lq (f := (d, 0)) h1 h2
  unfold gapS; dsimp only at h; omega
end Go.Z
namespace Go.Proofs.YtimpcelbekhipaaGreat
open Go.RowKit
set_option maxHeartbeats 1600000 in
theorem placed_any (x : Int) (a : Int × Int)  (w : World) (h1 : 1000 ≤ x) (h2 : x ≤ 9999) (ha : (-130000000 ≤ a.1 ∧ a.1 ≤ 130000000) ∧ (-130000000 ≤ a.2 ∧ a.2 ≤ 130000000))  :
    Calls Tryz.prog 61 #[.int .i64 x, .agg #[.int .i64 a.1, .int .i64 a.2]] w fun e w' => e = .returned (.tuple #[.agg #[.int .i64 ((Z.plc x a).1).1, .int .i64 ((Z.plc x a).1).2], .int .i64 ((Z.plc x a).2)]) ∧ K.Ext w w' := by
  have hl := Z.figLog_lq (f := (x, 0)) h1 h2
  dsimp only at hl
  have hgb := Z.gap_bd h1 h2 ha
  have HM : Hid (Z.plc x a = Z.figOr (x, Z.tenS (Z.gapS x a))) := Z.hide rfl
  have HGP : Hid (Z.gapS x a = a.1 + a.2 - (Z.figLog (x, 0)).1 - (Z.figLog (x, 0)).2) := Z.hide rfl
  have HR : Hid (∀ w : World, Calls Tryz.prog 63 #[.agg #[.int .i64 x, .int .i64 0]] w fun e w' => e = .returned (.agg #[.int .i64 (Z.figLog (x, 0)).1, .int .i64 (Z.figLog (x, 0)).2]) ∧ K.Ext w w') := Z.hide (fun w => figureLog_any (x, 0) w (by simp only [Z.isFig, Bool.and_eq_true, decide_eq_true_eq]; omega))
  generalize Z.figLog (x, 0) = r at *
  generalize Z.gapS x a = g at *
  obtain ⟨M, hM⟩ : ∃ M, Z.plc x a = M := ⟨_, rfl⟩
  rw [hM] at HM ⊢
  have HT : Hid (Z.tenS g = if 1048576 < g - 2097152 * Z.fl g 2097152 then Z.fl g 2097152 + 1 else Z.fl g 2097152) := Z.hide rfl
  have HD : Hid (∀ w : World, Calls Tryz.prog 91 #[.int .i64 g, .int .i64 2097152] w fun e w' => e = .returned (.int .i64 (Z.fl g 2097152)) ∧ w = w') := Z.hide (fun w => down_any g 2097152 w (by decide) (by omega) (by omega))
  obtain ⟨t1, t2⟩ := Z.fl_spec g 2097152 (by decide)
  generalize Z.fl g 2097152 = t at *
  have HX := Z.hide (fun w => distance_any g (2097152 * (t + 1)) w ⟨by omega, by omega⟩ ⟨by omega, by omega⟩)
  have HY := Z.hide (fun w => distance_any g (2097152 * t) w ⟨by omega, by omega⟩ ⟨by omega, by omega⟩)
  have hxy : Z.ab (g - 2097152 * (t + 1)) < Z.ab (g - 2097152 * t) ↔ 1048576 < g - 2097152 * t := by unfold Z.ab; omega
  generalize Z.ab (g - 2097152 * (t + 1)) = u at *
  generalize Z.ab (g - 2097152 * t) = v at *
  have q1 : IntKind.i64.wrap (a.1 + a.2) = a.1 + a.2 := IntWalk.i64_in _ (by omega)
  have q2 : IntKind.i64.wrap (a.1 + a.2 - r.1) = a.1 + a.2 - r.1 := IntWalk.i64_in _ (by omega)
  have q3 : IntKind.i64.wrap (a.1 + a.2 - r.1 - r.2) = g := by rw [HGP.out]; exact IntWalk.i64_in _ (by omega)
  have q4 : IntKind.i64.wrap (t + 1) = t + 1 := IntWalk.i64_in _ (by omega)
  have q5 : IntKind.i64.wrap (2097152 * (t + 1)) = 2097152 * (t + 1) := IntWalk.i64_in _ (by omega)
  have q6 : IntKind.i64.wrap (2097152 * t) = 2097152 * t := IntWalk.i64_in _ (by omega)
  clear HGP hl hM
  by_cases hc : 1048576 < g - 2097152 * t
  · rw [if_pos hc] at HT
    rw [HT.out] at HM
    have huv : u < v := hxy.2 hc
    have HL := fun w => limited_any x (t + 1) w
    have HE : Hid (M = Z.figOr (x, t + 1)) := Z.hide HM.out
    generalize Z.figOr (x, t + 1) = F at *
    clear hxy HT HM hc
    have X0 : K.Ext w w := K.Ext.refl w
    go_enter Tryz.func61, Tryz.ntmps61
    go_wp2_with (go_at_call 63; refine K.call (by with_reducible rfl) (by with_reducible rfl) (HR.out _) ?_; rintro e w1 ⟨rfl, x1⟩; have s1 : w.heap.size + 2 ≤ w1.heap.size := (by have h_ := x1.size; (try simp at h_); omega); have X1 := K.Ext.trans (K.Ext.alloc (K.Ext.alloc X0 _) _) x1; obtain ⟨c1_0_0, c1_0_1⟩ := K.c2 x1 (w.heap.size) (.int .i64 a.1) (.int .i64 a.2) (by go_simp); have z1_0 : w.heap.size < w1.heap.size := World.block_lt_of_cell? w1 _ c1_0_0; have d1_0 : ¬ (w.heap.size = w1.heap.size) := (by omega); have e1_0 : ¬ (w1.heap.size = w.heap.size) := (by omega); obtain ⟨c1_1_0, c1_1_1⟩ := K.c2 x1 (w.heap.size + 1) (.int .i64 0) (.int .i64 0) (by go_simp); obtain ⟨f1_1_0, f1_1_1⟩ := K.f2 x1 (w.heap.size + 1) (by go_simp); have z1_1 : w.heap.size + 1 < w1.heap.size := World.block_lt_of_cell? w1 _ c1_1_0; have d1_1 : ¬ (w.heap.size + 1 = w1.heap.size) := (by omega); have e1_1 : ¬ (w1.heap.size = w.heap.size + 1) := (by omega); have n1_0 : ¬ (w.heap.size + 1 = w.heap.size) := (by omega); have n0_1 : ¬ (w.heap.size = w.heap.size + 1) := (by omega))
    go_wp2_with (go_at_call 91; refine K.call (by with_reducible rfl) (by with_reducible rfl) (HD.out _) ?_; rintro e w_ ⟨rfl, rfl⟩)
    go_wp2_with (go_at_call 92; refine K.call (by with_reducible rfl) (by with_reducible rfl) (HX.out _) ?_; rintro e w_ ⟨rfl, rfl⟩)
    go_wp2_with (go_at_call 92; refine K.call (by with_reducible rfl) (by with_reducible rfl) (HY.out _) ?_; rintro e w_ ⟨rfl, rfl⟩)
    go_wp2_with (go_at_call 55; refine K.call (by with_reducible rfl) (by with_reducible rfl) (HL _) ?_; rintro e w5 ⟨rfl, x5⟩; have s5 : w1.heap.size + 1 ≤ w5.heap.size := (by have h_ := x5.size; (try simp at h_); omega); have X5 := K.Ext.trans (K.Ext.alloc X1 _) x5; obtain ⟨c5_0_0, c5_0_1⟩ := K.c2 x5 (w.heap.size) (.int .i64 a.1) (.int .i64 a.2) (by go_simp); have z5_0 : w.heap.size < w5.heap.size := World.block_lt_of_cell? w5 _ c5_0_0; have d5_0 : ¬ (w.heap.size = w5.heap.size) := (by omega); have e5_0 : ¬ (w5.heap.size = w.heap.size) := (by omega); obtain ⟨c5_1_0, c5_1_1⟩ := K.c2 x5 (w.heap.size + 1) (.int .i64 0) (.int .i64 0) (by go_simp); obtain ⟨f5_1_0, f5_1_1⟩ := K.f2 x5 (w.heap.size + 1) (by go_simp); have z5_1 : w.heap.size + 1 < w5.heap.size := World.block_lt_of_cell? w5 _ c5_1_0; have d5_1 : ¬ (w.heap.size + 1 = w5.heap.size) := (by omega); have e5_1 : ¬ (w5.heap.size = w.heap.size + 1) := (by omega); obtain ⟨c5_2_0, c5_2_1⟩ := K.c2 x5 (w1.heap.size) (.int .i64 r.1) (.int .i64 r.2) (by go_simp); obtain ⟨f5_2_0, f5_2_1⟩ := K.f2 x5 (w1.heap.size) (by go_simp); have z5_2 : w1.heap.size < w5.heap.size := World.block_lt_of_cell? w5 _ c5_2_0; have d5_2 : ¬ (w1.heap.size = w5.heap.size) := (by omega); have e5_2 : ¬ (w5.heap.size = w1.heap.size) := (by omega); have n2_0 : ¬ (w1.heap.size = w.heap.size) := (by omega); have n0_2 : ¬ (w.heap.size = w1.heap.size) := (by omega); have n2_1 : ¬ (w1.heap.size = w.heap.size + 1) := (by omega); have n1_2 : ¬ (w.heap.size + 1 = w1.heap.size) := (by omega); clear c1_0_0 c1_0_1 z1_0 d1_0 e1_0 c1_1_0 c1_1_1 f1_1_0 f1_1_1 z1_1 d1_1 e1_1)
    rw [HE.out]
    refine bodyPost_ret (v := .tuple #[.agg #[.int .i64 F.1.1, .int .i64 F.1.2], .int .i64 F.2]) (by unfold results; rw [Tryz.results61]; go_simp) rfl ⟨rfl, ?_⟩
    repeat with_reducible refine K.Ext.setCell ?_ (by dsimp only; omega) _
    exact (by repeat' (first | with_reducible exact X5 | with_reducible refine K.Ext.setCell ?_ ?_ _ | with_reducible refine K.Ext.alloc ?_ _ | with_reducible refine K.Ext.drew ?_ | (dsimp only; omega) | omega | (simp; omega)))
  · rw [if_neg hc] at HT
    rw [HT.out] at HM
    have huv : ¬ (u < v) := fun h => hc (hxy.1 h)
    have HL := fun w => limited_any x t w
    have HE : Hid (M = Z.figOr (x, t)) := Z.hide HM.out
    generalize Z.figOr (x, t) = F at *
    clear hxy HT HM hc
    have X0 : K.Ext w w := K.Ext.refl w
    go_enter Tryz.func61, Tryz.ntmps61
    go_wp2_with (go_at_call 63; refine K.call (by with_reducible rfl) (by with_reducible rfl) (HR.out _) ?_; rintro e w1 ⟨rfl, x1⟩; have s1 : w.heap.size + 2 ≤ w1.heap.size := (by have h_ := x1.size; (try simp at h_); omega); have X1 : K.Ext w w1 := K.Ext.trans (by repeat' (first | with_reducible exact X0 | with_reducible refine K.Ext.setCell ?_ ?_ _ | with_reducible refine K.Ext.alloc ?_ _ | with_reducible refine K.Ext.drew ?_ | (dsimp only; omega) | omega | (simp; omega))) x1; obtain ⟨c1_0_0, c1_0_1⟩ := K.c2 x1 (w.heap.size) (.int .i64 a.1) (.int .i64 a.2) (by go_simp); have z1_0 : w.heap.size < w1.heap.size := World.block_lt_of_cell? w1 _ c1_0_0; have d1_0 : ¬ (w.heap.size = w1.heap.size) := (by omega); have e1_0 : ¬ (w1.heap.size = w.heap.size) := (by omega); obtain ⟨c1_1_0, c1_1_1⟩ := K.c2 x1 (w.heap.size + 1) (.int .i64 0) (.int .i64 0) (by go_simp); obtain ⟨f1_1_0, f1_1_1⟩ := K.f2 x1 (w.heap.size + 1) (by go_simp); have z1_1 : w.heap.size + 1 < w1.heap.size := World.block_lt_of_cell? w1 _ c1_1_0; have d1_1 : ¬ (w.heap.size + 1 = w1.heap.size) := (by omega); have e1_1 : ¬ (w1.heap.size = w.heap.size + 1) := (by omega); have n1_0 : ¬ (w.heap.size + 1 = w.heap.size) := (by omega); have n0_1 : ¬ (w.heap.size = w.heap.size + 1) := (by omega))
    go_wp2_with (go_at_call 91; refine K.call (by with_reducible rfl) (by with_reducible rfl) (HD.out _) ?_; rintro e w_ ⟨rfl, rfl⟩)
    go_wp2_with (go_at_call 92; refine K.call (by with_reducible rfl) (by with_reducible rfl) (HX.out _) ?_; rintro e w_ ⟨rfl, rfl⟩)
    go_wp2_with (go_at_call 92; refine K.call (by with_reducible rfl) (by with_reducible rfl) (HY.out _) ?_; rintro e w_ ⟨rfl, rfl⟩)
    go_wp2_with (go_at_call 55; refine K.call (by with_reducible rfl) (by with_reducible rfl) (HL _) ?_; rintro e w5 ⟨rfl, x5⟩; have s5 : w1.heap.size + 1 ≤ w5.heap.size := (by have h_ := x5.size; (try simp at h_); omega); have X5 := K.Ext.trans (K.Ext.alloc X1 _) x5; obtain ⟨c5_0_0, c5_0_1⟩ := K.c2 x5 (w.heap.size) (.int .i64 a.1) (.int .i64 a.2) (by go_simp); have z5_0 : w.heap.size < w5.heap.size := World.block_lt_of_cell? w5 _ c5_0_0; have d5_0 : ¬ (w.heap.size = w5.heap.size) := (by omega); have e5_0 : ¬ (w5.heap.size = w.heap.size) := (by omega); obtain ⟨c5_1_0, c5_1_1⟩ := K.c2 x5 (w.heap.size + 1) (.int .i64 0) (.int .i64 0) (by go_simp); obtain ⟨f5_1_0, f5_1_1⟩ := K.f2 x5 (w.heap.size + 1) (by go_simp); have z5_1 : w.heap.size + 1 < w5.heap.size := World.block_lt_of_cell? w5 _ c5_1_0; have d5_1 : ¬ (w.heap.size + 1 = w5.heap.size) := (by omega); have e5_1 : ¬ (w5.heap.size = w.heap.size + 1) := (by omega); obtain ⟨c5_2_0, c5_2_1⟩ := K.c2 x5 (w1.heap.size) (.int .i64 r.1) (.int .i64 r.2) (by go_simp); obtain ⟨f5_2_0, f5_2_1⟩ := K.f2 x5 (w1.heap.size) (by go_simp); have z5_2 : w1.heap.size < w5.heap.size := World.block_lt_of_cell? w5 _ c5_2_0; have d5_2 : ¬ (w1.heap.size = w5.heap.size) := (by omega); have e5_2 : ¬ (w5.heap.size = w1.heap.size) := (by omega); have n2_0 : ¬ (w1.heap.size = w.heap.size) := (by omega); have n0_2 : ¬ (w.heap.size = w1.heap.size) := (by omega); have n2_1 : ¬ (w1.heap.size = w.heap.size + 1) := (by omega); have n1_2 : ¬ (w.heap.size + 1 = w1.heap.size) := (by omega); clear c1_0_0 c1_0_1 z1_0 d1_0 e1_0 c1_1_0 c1_1_1 f1_1_0 f1_1_1 z1_1 d1_1 e1_1)
    rw [HE.out]
    refine bodyPost_ret (v := .tuple #[.agg #[.int .i64 F.1.1, .int .i64 F.1.2], .int .i64 F.2]) (by unfold results; rw [Tryz.results61]; go_simp) rfl ⟨rfl, ?_⟩
    repeat with_reducible refine K.Ext.setCell ?_ (by dsimp only; omega) _
    exact (by repeat' (first | with_reducible exact X5 | with_reducible refine K.Ext.setCell ?_ ?_ _ | with_reducible refine K.Ext.alloc ?_ _ | with_reducible refine K.Ext.drew ?_ | (dsimp only; omega) | omega | (simp; omega)))
set_option maxHeartbeats 1600000 in
theorem impl_PlaceTransfer (fr : Int) (to : Int) (f : Int × Int) (rd : Int × Int)  (w : World)   :
    Calls Tryz.prog 31 #[.int .i64 fr, .int .i64 to, .agg #[.int .i64 f.1, .int .i64 f.2], .agg #[.int .i64 rd.1, .int .i64 rd.2]] w fun e w' => e = .returned (.tuple #[.agg #[.int .i64 ((Z.plO fr to f rd).1).1, .int .i64 ((Z.plO fr to f rd).1).2], .int .i64 ((Z.plO fr to f rd).2)]) ∧ K.Ext w w' := by
  obtain ⟨M, hM⟩ : ∃ M, Z.plO fr to f rd = M := ⟨_, rfl⟩
  have HM : Hid (M = if (Z.isFig f.1 f.2 && Z.isFig rd.1 rd.2) = false then ((0, 0), 1) else if Z.ordS fr = 0 ∨ Z.ordS to = 0 then ((0, 0), 2) else Z.plc rd.1 (Z.scaleD (Z.figLog f) (Z.powS fr to).1 (Z.powS fr to).2)) := Z.hide (by rw [← hM]; rfl)
  rw [hM]
  clear hM
  have HG : Hid (∀ (W : World) (g : Nat) (t : TypeId), W.heap[g]? = some (.cells #[.int .i64 f.1, .int .i64 f.2, .int .i64 rd.1, .int .i64 rd.2] t) → Calls Tryz.prog 54 #[.slice (some ⟨g, 0, none⟩) 2 2] W fun e w'' => e = .returned (.bool (Z.isFig f.1 f.2 && Z.isFig rd.1 rd.2)) ∧ K.Ext W w'') := Z.hide (fun W g t h => areTwo_any f rd W h)
  have HF := fun w => orderOf_any fr w
  have HT := fun w => orderOf_any to w
  cases hv : (Z.isFig f.1 f.2 && Z.isFig rd.1 rd.2)
  · rw [hv] at HG
    have HE : Hid (M = ((0, 0), 1)) := Z.hide (by rw [HM.out, hv]; rfl)
    clear HM hv
    have X0 : K.Ext w w := K.Ext.refl w
    go_enter Tryz.func31, Tryz.ntmps31
    go_wp2_with (go_at_call 54; refine K.call (by with_reducible rfl) (by with_reducible rfl) (HG.out _ _ _ (K.block_new (by simp))) ?_; rintro e w1 ⟨rfl, x1⟩; have s1 : w.heap.size + 4 ≤ w1.heap.size := (by have h_ := x1.size; (try simp at h_); omega); have X1 := K.Ext.trans (K.Ext.alloc (K.Ext.alloc (K.Ext.alloc (K.Ext.alloc X0 _) _) _) _) x1; obtain ⟨c1_0_0, c1_0_1⟩ := K.c2 x1 (w.heap.size) (.int .i64 f.1) (.int .i64 f.2) (by go_simp); have z1_0 : w.heap.size < w1.heap.size := World.block_lt_of_cell? w1 _ c1_0_0; have d1_0 : ¬ (w.heap.size = w1.heap.size) := (by omega); have e1_0 : ¬ (w1.heap.size = w.heap.size) := (by omega); obtain ⟨c1_1_0, c1_1_1⟩ := K.c2 x1 (w.heap.size + 1) (.int .i64 rd.1) (.int .i64 rd.2) (by go_simp); have z1_1 : w.heap.size + 1 < w1.heap.size := World.block_lt_of_cell? w1 _ c1_1_0; have d1_1 : ¬ (w.heap.size + 1 = w1.heap.size) := (by omega); have e1_1 : ¬ (w1.heap.size = w.heap.size + 1) := (by omega); have n1_0 : ¬ (w.heap.size + 1 = w.heap.size) := (by omega); have n0_1 : ¬ (w.heap.size = w.heap.size + 1) := (by omega); obtain ⟨c1_2_0, c1_2_1⟩ := K.c2 x1 (w.heap.size + 1 + 1) (.int .i64 0) (.int .i64 0) (by go_simp); obtain ⟨f1_2_0, f1_2_1⟩ := K.f2 x1 (w.heap.size + 1 + 1) (by go_simp); have z1_2 : w.heap.size + 1 + 1 < w1.heap.size := World.block_lt_of_cell? w1 _ c1_2_0; have d1_2 : ¬ (w.heap.size + 1 + 1 = w1.heap.size) := (by omega); have e1_2 : ¬ (w1.heap.size = w.heap.size + 1 + 1) := (by omega); have n2_0 : ¬ (w.heap.size + 1 + 1 = w.heap.size) := (by omega); have n0_2 : ¬ (w.heap.size = w.heap.size + 1 + 1) := (by omega); have n2_1 : ¬ (w.heap.size + 1 + 1 = w.heap.size + 1) := (by omega); have n1_2 : ¬ (w.heap.size + 1 = w.heap.size + 1 + 1) := (by omega))
    rw [HE.out]
    refine bodyPost_ret (v := .tuple #[.agg #[.int .i64 0, .int .i64 0], .int .i64 1]) (by unfold results; rw [Tryz.results31]; go_simp) rfl ⟨rfl, ?_⟩
    repeat with_reducible refine K.Ext.setCell ?_ (by dsimp only; omega) _
    exact (by repeat' (first | with_reducible exact X1 | with_reducible refine K.Ext.setCell ?_ ?_ _ | with_reducible refine K.Ext.alloc ?_ _ | with_reducible refine K.Ext.drew ?_ | (dsimp only; omega) | omega | (simp; omega)))
  rw [hv] at HG HM
  rw [if_neg (by decide)] at HM
  by_cases ha : Z.ordS fr = 0
  · rw [if_pos (.inl ha)] at HM
    rw [ha] at HF
    clear ha hv
    have X0 : K.Ext w w := K.Ext.refl w
    go_enter Tryz.func31, Tryz.ntmps31
    go_wp2_with (go_at_call 54; refine K.call (by with_reducible rfl) (by with_reducible rfl) (HG.out _ _ _ (K.block_new (by simp))) ?_; rintro e w1 ⟨rfl, x1⟩; have s1 : w.heap.size + 4 ≤ w1.heap.size := (by have h_ := x1.size; (try simp at h_); omega); have X1 : K.Ext w w1 := K.Ext.trans (by repeat' (first | with_reducible exact X0 | with_reducible refine K.Ext.setCell ?_ ?_ _ | with_reducible refine K.Ext.alloc ?_ _ | with_reducible refine K.Ext.drew ?_ | (dsimp only; omega) | omega | (simp; omega))) x1; obtain ⟨c1_0_0, c1_0_1⟩ := K.c2 x1 (w.heap.size) (.int .i64 f.1) (.int .i64 f.2) (by go_simp); have z1_0 : w.heap.size < w1.heap.size := World.block_lt_of_cell? w1 _ c1_0_0; have d1_0 : ¬ (w.heap.size = w1.heap.size) := (by omega); have e1_0 : ¬ (w1.heap.size = w.heap.size) := (by omega); obtain ⟨c1_1_0, c1_1_1⟩ := K.c2 x1 (w.heap.size + 1) (.int .i64 rd.1) (.int .i64 rd.2) (by go_simp); have z1_1 : w.heap.size + 1 < w1.heap.size := World.block_lt_of_cell? w1 _ c1_1_0; have d1_1 : ¬ (w.heap.size + 1 = w1.heap.size) := (by omega); have e1_1 : ¬ (w1.heap.size = w.heap.size + 1) := (by omega); have n1_0 : ¬ (w.heap.size + 1 = w.heap.size) := (by omega); have n0_1 : ¬ (w.heap.size = w.heap.size + 1) := (by omega); obtain ⟨c1_2_0, c1_2_1⟩ := K.c2 x1 (w.heap.size + 1 + 1) (.int .i64 0) (.int .i64 0) (by go_simp); obtain ⟨f1_2_0, f1_2_1⟩ := K.f2 x1 (w.heap.size + 1 + 1) (by go_simp); have z1_2 : w.heap.size + 1 + 1 < w1.heap.size := World.block_lt_of_cell? w1 _ c1_2_0; have d1_2 : ¬ (w.heap.size + 1 + 1 = w1.heap.size) := (by omega); have e1_2 : ¬ (w1.heap.size = w.heap.size + 1 + 1) := (by omega); have n2_0 : ¬ (w.heap.size + 1 + 1 = w.heap.size) := (by omega); have n0_2 : ¬ (w.heap.size = w.heap.size + 1 + 1) := (by omega); have n2_1 : ¬ (w.heap.size + 1 + 1 = w.heap.size + 1) := (by omega); have n1_2 : ¬ (w.heap.size + 1 = w.heap.size + 1 + 1) := (by omega))
    go_wp2_with (go_at_call 58; refine K.call (by with_reducible rfl) (by with_reducible rfl) (HF _) ?_; rintro e w_ ⟨rfl, rfl⟩)
    rw [HM.out]
    refine bodyPost_ret (v := .tuple #[.agg #[.int .i64 0, .int .i64 0], .int .i64 2]) (by unfold results; rw [Tryz.results31]; go_simp) rfl ⟨rfl, ?_⟩
    repeat with_reducible refine K.Ext.setCell ?_ (by dsimp only; omega) _
    exact (by repeat' (first | with_reducible exact X1 | with_reducible refine K.Ext.setCell ?_ ?_ _ | with_reducible refine K.Ext.alloc ?_ _ | with_reducible refine K.Ext.drew ?_ | (dsimp only; omega) | omega | (simp; omega)))
  by_cases hb : Z.ordS to = 0
  · rw [if_pos (.inr hb)] at HM
    have ha' : (Z.ordS fr == 0) = false := by simpa using ha
    rw [hb] at HT
    generalize Z.ordS fr = a at *
    clear hb hv
    have X0 : K.Ext w w := K.Ext.refl w
    go_enter Tryz.func31, Tryz.ntmps31
    go_wp2_with (go_at_call 54; refine K.call (by with_reducible rfl) (by with_reducible rfl) (HG.out _ _ _ (K.block_new (by simp))) ?_; rintro e w1 ⟨rfl, x1⟩; have s1 : w.heap.size + 4 ≤ w1.heap.size := (by have h_ := x1.size; (try simp at h_); omega); have X1 : K.Ext w w1 := K.Ext.trans (by repeat' (first | with_reducible exact X0 | with_reducible refine K.Ext.setCell ?_ ?_ _ | with_reducible refine K.Ext.alloc ?_ _ | with_reducible refine K.Ext.drew ?_ | (dsimp only; omega) | omega | (simp; omega))) x1; obtain ⟨c1_0_0, c1_0_1⟩ := K.c2 x1 (w.heap.size) (.int .i64 f.1) (.int .i64 f.2) (by go_simp); have z1_0 : w.heap.size < w1.heap.size := World.block_lt_of_cell? w1 _ c1_0_0; have d1_0 : ¬ (w.heap.size = w1.heap.size) := (by omega); have e1_0 : ¬ (w1.heap.size = w.heap.size) := (by omega); obtain ⟨c1_1_0, c1_1_1⟩ := K.c2 x1 (w.heap.size + 1) (.int .i64 rd.1) (.int .i64 rd.2) (by go_simp); have z1_1 : w.heap.size + 1 < w1.heap.size := World.block_lt_of_cell? w1 _ c1_1_0; have d1_1 : ¬ (w.heap.size + 1 = w1.heap.size) := (by omega); have e1_1 : ¬ (w1.heap.size = w.heap.size + 1) := (by omega); have n1_0 : ¬ (w.heap.size + 1 = w.heap.size) := (by omega); have n0_1 : ¬ (w.heap.size = w.heap.size + 1) := (by omega); obtain ⟨c1_2_0, c1_2_1⟩ := K.c2 x1 (w.heap.size + 1 + 1) (.int .i64 0) (.int .i64 0) (by go_simp); obtain ⟨f1_2_0, f1_2_1⟩ := K.f2 x1 (w.heap.size + 1 + 1) (by go_simp); have z1_2 : w.heap.size + 1 + 1 < w1.heap.size := World.block_lt_of_cell? w1 _ c1_2_0; have d1_2 : ¬ (w.heap.size + 1 + 1 = w1.heap.size) := (by omega); have e1_2 : ¬ (w1.heap.size = w.heap.size + 1 + 1) := (by omega); have n2_0 : ¬ (w.heap.size + 1 + 1 = w.heap.size) := (by omega); have n0_2 : ¬ (w.heap.size = w.heap.size + 1 + 1) := (by omega); have n2_1 : ¬ (w.heap.size + 1 + 1 = w.heap.size + 1) := (by omega); have n1_2 : ¬ (w.heap.size + 1 = w.heap.size + 1 + 1) := (by omega))
    go_wp2_with (go_at_call 58; refine K.call (by with_reducible rfl) (by with_reducible rfl) (HF _) ?_; rintro e w_ ⟨rfl, rfl⟩)
    go_wp2_with (go_at_call 58; refine K.call (by with_reducible rfl) (by with_reducible rfl) (HT _) ?_; rintro e w_ ⟨rfl, rfl⟩)
    rw [HM.out]
    refine bodyPost_ret (v := .tuple #[.agg #[.int .i64 0, .int .i64 0], .int .i64 2]) (by unfold results; rw [Tryz.results31]; go_simp) rfl ⟨rfl, ?_⟩
    repeat with_reducible refine K.Ext.setCell ?_ (by dsimp only; omega) _
    exact (by repeat' (first | with_reducible exact X1 | with_reducible refine K.Ext.setCell ?_ ?_ _ | with_reducible refine K.Ext.alloc ?_ _ | with_reducible refine K.Ext.drew ?_ | (dsimp only; omega) | omega | (simp; omega)))
  rw [if_neg (by simp [ha, hb])] at HM
  have ha' : (Z.ordS fr == 0) = false := by simpa using ha
  have hb' : (Z.ordS to == 0) = false := by simpa using hb
  obtain ⟨hf, hr⟩ := Bool.and_eq_true_iff.1 hv
  have HP := fun w => exponent_any fr to w
  have pb := Z.pow_bd (to := to) ha
  generalize Z.powS fr to = pw at *
  obtain ⟨n, d⟩ := pw
  dsimp only at pb HP HM
  obtain ⟨⟨f1, f2⟩, f3, f4⟩ := Z.isFig_parts hf
  obtain ⟨⟨r1, r2⟩, _⟩ := Z.isFig_parts hr
  have HL := Z.hide (fun w => figureLog_any f w hf)
  have lb := Z.figLog_lq f1 f2
  generalize Z.figLog f = l at *
  have HS := Z.hide (fun w => scaledD_any l n d w ⟨by omega, by omega⟩ ⟨by omega, by omega⟩ ⟨by omega, by omega⟩ (by omega))
  have sb := Z.scaleD_bd (a := l) (n := n) (d := d) ⟨by omega, by omega⟩ ⟨by omega, by omega⟩ pb.1 (by omega)
  generalize Z.scaleD l n d = sc at *
  have HPL := Z.hide (fun w => placed_any rd.1 sc w r1 r2 sb)
  have HE : Hid (M = Z.plc rd.1 sc) := Z.hide HM.out
  generalize Z.plc rd.1 sc = F at *
  generalize Z.ordS fr = a at *
  generalize Z.ordS to = b at *
  clear HM ha hb hv hf hr lb sb
  have X0 : K.Ext w w := K.Ext.refl w
  go_enter Tryz.func31, Tryz.ntmps31
  go_wp2_with (go_at_call 54; refine K.call (by with_reducible rfl) (by with_reducible rfl) (HG.out _ _ _ (K.block_new (by simp))) ?_; rintro e w1 ⟨rfl, x1⟩; have s1 : w.heap.size + 4 ≤ w1.heap.size := (by have h_ := x1.size; (try simp at h_); omega); have X1 : K.Ext w w1 := K.Ext.trans (by repeat' (first | with_reducible exact X0 | with_reducible refine K.Ext.setCell ?_ ?_ _ | with_reducible refine K.Ext.alloc ?_ _ | with_reducible refine K.Ext.drew ?_ | (dsimp only; omega) | omega | (simp; omega))) x1; obtain ⟨c1_0_0, c1_0_1⟩ := K.c2 x1 (w.heap.size) (.int .i64 f.1) (.int .i64 f.2) (by go_simp); have z1_0 : w.heap.size < w1.heap.size := World.block_lt_of_cell? w1 _ c1_0_0; have d1_0 : ¬ (w.heap.size = w1.heap.size) := (by omega); have e1_0 : ¬ (w1.heap.size = w.heap.size) := (by omega); obtain ⟨c1_1_0, c1_1_1⟩ := K.c2 x1 (w.heap.size + 1) (.int .i64 rd.1) (.int .i64 rd.2) (by go_simp); have z1_1 : w.heap.size + 1 < w1.heap.size := World.block_lt_of_cell? w1 _ c1_1_0; have d1_1 : ¬ (w.heap.size + 1 = w1.heap.size) := (by omega); have e1_1 : ¬ (w1.heap.size = w.heap.size + 1) := (by omega); have n1_0 : ¬ (w.heap.size + 1 = w.heap.size) := (by omega); have n0_1 : ¬ (w.heap.size = w.heap.size + 1) := (by omega); obtain ⟨c1_2_0, c1_2_1⟩ := K.c2 x1 (w.heap.size + 1 + 1) (.int .i64 0) (.int .i64 0) (by go_simp); obtain ⟨f1_2_0, f1_2_1⟩ := K.f2 x1 (w.heap.size + 1 + 1) (by go_simp); have z1_2 : w.heap.size + 1 + 1 < w1.heap.size := World.block_lt_of_cell? w1 _ c1_2_0; have d1_2 : ¬ (w.heap.size + 1 + 1 = w1.heap.size) := (by omega); have e1_2 : ¬ (w1.heap.size = w.heap.size + 1 + 1) := (by omega); have n2_0 : ¬ (w.heap.size + 1 + 1 = w.heap.size) := (by omega); have n0_2 : ¬ (w.heap.size = w.heap.size + 1 + 1) := (by omega); have n2_1 : ¬ (w.heap.size + 1 + 1 = w.heap.size + 1) := (by omega); have n1_2 : ¬ (w.heap.size + 1 = w.heap.size + 1 + 1) := (by omega))
  go_wp2_with (go_at_call 58; refine K.call (by with_reducible rfl) (by with_reducible rfl) (HF _) ?_; rintro e w_ ⟨rfl, rfl⟩)
  go_wp2_with (go_at_call 58; refine K.call (by with_reducible rfl) (by with_reducible rfl) (HT _) ?_; rintro e w_ ⟨rfl, rfl⟩)
  go_wp2_with (go_at_call 60; refine K.call (by with_reducible rfl) (by with_reducible rfl) (HP _) ?_; rintro e w4 ⟨rfl, x4⟩; have s4 : w1.heap.size ≤ w4.heap.size := (by have h_ := x4.size; (try simp at h_); omega); have X4 := K.Ext.trans (X1) x4; obtain ⟨c4_0_0, c4_0_1⟩ := K.c2 x4 (w.heap.size) (.int .i64 f.1) (.int .i64 f.2) (by go_simp); have z4_0 : w.heap.size < w4.heap.size := World.block_lt_of_cell? w4 _ c4_0_0; have d4_0 : ¬ (w.heap.size = w4.heap.size) := (by omega); have e4_0 : ¬ (w4.heap.size = w.heap.size) := (by omega); obtain ⟨c4_1_0, c4_1_1⟩ := K.c2 x4 (w.heap.size + 1) (.int .i64 rd.1) (.int .i64 rd.2) (by go_simp); have z4_1 : w.heap.size + 1 < w4.heap.size := World.block_lt_of_cell? w4 _ c4_1_0; have d4_1 : ¬ (w.heap.size + 1 = w4.heap.size) := (by omega); have e4_1 : ¬ (w4.heap.size = w.heap.size + 1) := (by omega); obtain ⟨c4_2_0, c4_2_1⟩ := K.c2 x4 (w.heap.size + 1 + 1) (.int .i64 0) (.int .i64 0) (by go_simp); obtain ⟨f4_2_0, f4_2_1⟩ := K.f2 x4 (w.heap.size + 1 + 1) (by go_simp); have z4_2 : w.heap.size + 1 + 1 < w4.heap.size := World.block_lt_of_cell? w4 _ c4_2_0; have d4_2 : ¬ (w.heap.size + 1 + 1 = w4.heap.size) := (by omega); have e4_2 : ¬ (w4.heap.size = w.heap.size + 1 + 1) := (by omega); clear c1_0_0 c1_0_1 z1_0 d1_0 e1_0 c1_1_0 c1_1_1 z1_1 d1_1 e1_1 c1_2_0 c1_2_1 f1_2_0 f1_2_1 z1_2 d1_2 e1_2)
  go_wp2_with fail
  refine K.wp_region_y (R := K.RE) 9 [0, 1, 1, 2, 0, 0, 2, 2, 0] [K.SQ.any, K.SQ.any, K.SQ.any, K.SQ.is (.agg #[.int .i64 l.1, .int .i64 l.2]), K.SQ.any, K.SQ.any, K.SQ.is (.agg #[.int .i64 sc.1, .int .i64 sc.2]), K.SQ.is (.tuple #[.agg #[.int .i64 F.1.1, .int .i64 F.1.2], .int .i64 F.2])] (by kernel_rfl) (by kernel_rfl) ?_
  simp only [List.take_succ_cons, List.take_zero, List.drop_succ_cons, List.drop_zero]
  apply K.y_pure
  · rfl
  · rfl
  · intro w'; go_simp; first | done | exact K.vint (IntWalk.i64_in _ (by omega)) | rfl | exact ⟨rfl, rfl⟩
  simp only [Act.put, List.setIfInBounds_toArray, List.set]
  iterate 2
    apply K.y_held
    · rfl
    · rfl
    · intro w' hx; have hx : K.Ext _ _ := hx; have hc := hx.all.1.1; have hf := hx.all.1.2; have hc' := hx.all.2.1; have hf' := hx.all.2.2; go_simp; first | done | rfl | exact ⟨rfl, rfl⟩
    simp only [Act.put, List.setIfInBounds_toArray, List.set]
  apply K.y_call_is
  · rfl
  · rfl
  · rfl
  · intro w'; go_simp; first | done | rfl | exact ⟨rfl, rfl⟩
  · intro w' hx hp; have hx : K.Ext _ _ := hx; have hc := hx.all.1.1; have hf := hx.all.1.2; have hc' := hx.all.2.1; have hf' := hx.all.2.2; exact HL.out _
  intro w_3_ hx_3_
  replace hx_3_ : K.Ext _ _ := hx_3_
  simp only [Act.put, List.setIfInBounds_toArray, List.set]
  iterate 2
    apply K.y_pure
    · rfl
    · rfl
    · intro w'; go_simp; first | done | exact K.vint (IntWalk.i64_in _ (by omega)) | rfl | exact ⟨rfl, rfl⟩
    simp only [Act.put, List.setIfInBounds_toArray, List.set]
  apply K.y_call_is
  · rfl
  · rfl
  · rfl
  · intro w'; go_simp; first | done | rfl | exact ⟨rfl, rfl⟩
  · intro w' hx hp; have hx : K.Ext _ _ := hx; have hc := hx.all.1.1; have hf := hx.all.1.2; have hc' := hx.all.2.1; have hf' := hx.all.2.2; exact HS.out _
  intro w_6_ hx_6_
  replace hx_6_ : K.Ext _ _ := hx_6_
  simp only [Act.put, List.setIfInBounds_toArray, List.set]
  apply K.y_call_is
  · rfl
  · rfl
  · rfl
  · intro w'; go_simp; first | done | rfl | exact ⟨rfl, rfl⟩
  · intro w' hx hp; have hx : K.Ext _ _ := hx; have hc := hx.all.1.1; have hf := hx.all.1.2; have hc' := hx.all.2.1; have hf' := hx.all.2.2; exact HPL.out _
  intro w_7_ hx_7_
  replace hx_7_ : K.Ext _ _ := hx_7_
  simp only [Act.put, List.setIfInBounds_toArray, List.set]
  apply K.y_pure
  · rfl
  · rfl
  · intro w'; go_simp; first | done | exact K.vint (IntWalk.i64_in _ (by omega)) | rfl | exact ⟨rfl, rfl⟩
  simp only [Act.put, List.setIfInBounds_toArray, List.set]
  apply K.y_done
  intro w5 h_x
  replace h_x : K.Ext _ _ := h_x
  have x5 := hx_3_.trans (hx_6_.trans (hx_7_.trans h_x))
  clear h_x hx_3_ hx_6_ hx_7_
  obtain ⟨⟨hcw5, hfw5⟩, hc'w5, hf'w5⟩ := x5.all
  have s5 : w4.heap.size ≤ w5.heap.size := (by have h_ := x5.size; (try simp at h_); omega)
  have X5 := K.Ext.trans (K.Ext.drew (X4)) x5
  obtain ⟨c5_0_0, c5_0_1⟩ := K.c2 x5 (w.heap.size) (.int .i64 f.1) (.int .i64 f.2) (by go_simp)
  have z5_0 : w.heap.size < w5.heap.size := World.block_lt_of_cell? w5 _ c5_0_0
  have d5_0 : ¬ (w.heap.size = w5.heap.size) := (by omega)
  have e5_0 : ¬ (w5.heap.size = w.heap.size) := (by omega)
  obtain ⟨c5_1_0, c5_1_1⟩ := K.c2 x5 (w.heap.size + 1) (.int .i64 rd.1) (.int .i64 rd.2) (by go_simp)
  have z5_1 : w.heap.size + 1 < w5.heap.size := World.block_lt_of_cell? w5 _ c5_1_0
  have d5_1 : ¬ (w.heap.size + 1 = w5.heap.size) := (by omega)
  have e5_1 : ¬ (w5.heap.size = w.heap.size + 1) := (by omega)
  obtain ⟨c5_2_0, c5_2_1⟩ := K.c2 x5 (w.heap.size + 1 + 1) (.int .i64 0) (.int .i64 0) (by go_simp)
  obtain ⟨f5_2_0, f5_2_1⟩ := K.f2 x5 (w.heap.size + 1 + 1) (by go_simp)
  have z5_2 : w.heap.size + 1 + 1 < w5.heap.size := World.block_lt_of_cell? w5 _ c5_2_0
  have d5_2 : ¬ (w.heap.size + 1 + 1 = w5.heap.size) := (by omega)
  have e5_2 : ¬ (w5.heap.size = w.heap.size + 1 + 1) := (by omega)
  clear c4_0_0 c4_0_1 z4_0 d4_0 e4_0 c4_1_0 c4_1_1 z4_1 d4_1 e4_1 c4_2_0 c4_2_1 f4_2_0 f4_2_1 z4_2 d4_2 e4_2
  go_wp2_with fail
  refine NoPanic.normal ?_
  go_wp2_with fail
  rw [HE.out]
  refine bodyPost_ret (v := .tuple #[.agg #[.int .i64 F.1.1, .int .i64 F.1.2], .int .i64 F.2]) (by unfold results; rw [Tryz.results31]; go_simp) rfl ⟨rfl, ?_⟩
  repeat with_reducible refine K.Ext.setCell ?_ (by dsimp only; omega) _
  exact (by repeat' (first | with_reducible exact X5 | with_reducible refine K.Ext.setCell ?_ ?_ _ | with_reducible refine K.Ext.alloc ?_ _ | with_reducible refine K.Ext.drew ?_ | (dsimp only; omega) | omega | (simp; omega)))
end Go.Proofs.YtimpcelbekhipaaGreat
end
section
namespace Go.Z
noncomputable def cuO (R : Rl) (fr to : Int) (f : Int × Int) : (Int × Int) × Int := if (trO R fr to f).2 = 0 then plO fr to f (trO R fr to f).1 else ((0, 0), (trO R fr to f).2)
end Go.Z
namespace Go.Proofs.YtimpcelbekhipaaGreat
open Go.RowKit
theorem l17Exact_any (fr : Int) (to : Int) (f : Int × Int)  (w : World)   :
    Calls Tryz.prog 64 #[.int .i64 fr, .int .i64 to, .agg #[.int .i64 f.1, .int .i64 f.2]] w fun e w' => e = .returned (.int .i64 (Z.xCode fr to (Z.isFig f.1 f.2))) ∧ K.Ext w w' := by
  have HF := fun w => l17Order_any fr w
  have HT := fun w => l17Order_any to w
  have HE : Hid (Z.xCode fr to (Z.isFig f.1 f.2) = if Z.isFig f.1 f.2 = false then 1 else if Z.ordS fr = 0 ∨ Z.ordS to = 0 then 2 else 0) := Z.hide rfl
  have HG := fun w => spec_IsFigure f.1 f.2 w
  obtain ⟨M, hM⟩ : ∃ M, Z.xCode fr to (Z.isFig f.1 f.2) = M := ⟨_, rfl⟩
  rw [hM] at HE ⊢
  clear hM
  generalize Z.isFig f.1 f.2 = g at *
  generalize Z.ordS fr = a at *
  generalize Z.ordS to = b at *
  cases g
  · rw [if_pos rfl] at HE
    have X0 : K.Ext w w := K.Ext.refl w
    go_enter Tryz.func64, Tryz.ntmps64
    go_wp2_with (go_at_call 52; refine K.call (by with_reducible rfl) (by with_reducible rfl) (HG _) ?_; rintro e w1 ⟨rfl, x1⟩; have s1 : w.heap.size + 1 ≤ w1.heap.size := (by have h_ := x1.size; (try simp at h_); omega); have X1 := K.Ext.trans (K.Ext.alloc X0 _) x1; obtain ⟨c1_0_0, c1_0_1⟩ := K.c2 x1 (w.heap.size) (.int .i64 f.1) (.int .i64 f.2) (by go_simp); have z1_0 : w.heap.size < w1.heap.size := World.block_lt_of_cell? w1 _ c1_0_0; have d1_0 : ¬ (w.heap.size = w1.heap.size) := (by omega); have e1_0 : ¬ (w1.heap.size = w.heap.size) := (by omega))
    rw [HE.out]
    refine bodyPost_ret (v := .int .i64 1) (by unfold results; rw [Tryz.results64]; go_simp) rfl ⟨rfl, ?_⟩
    repeat with_reducible refine K.Ext.setCell ?_ (by dsimp only; omega) _
    exact (by repeat' (first | with_reducible exact X1 | with_reducible refine K.Ext.setCell ?_ ?_ _ | with_reducible refine K.Ext.alloc ?_ _ | with_reducible refine K.Ext.drew ?_ | (dsimp only; omega) | omega | (simp; omega)))
  rw [if_neg (by decide)] at HE
  by_cases ha : a = 0
  · rw [if_pos (.inl ha)] at HE
    subst ha
    have X0 : K.Ext w w := K.Ext.refl w
    go_enter Tryz.func64, Tryz.ntmps64
    go_wp2_with (go_at_call 52; refine K.call (by with_reducible rfl) (by with_reducible rfl) (HG _) ?_; rintro e w1 ⟨rfl, x1⟩; have s1 : w.heap.size + 1 ≤ w1.heap.size := (by have h_ := x1.size; (try simp at h_); omega); have X1 := K.Ext.trans (K.Ext.alloc X0 _) x1; obtain ⟨c1_0_0, c1_0_1⟩ := K.c2 x1 (w.heap.size) (.int .i64 f.1) (.int .i64 f.2) (by go_simp); have z1_0 : w.heap.size < w1.heap.size := World.block_lt_of_cell? w1 _ c1_0_0; have d1_0 : ¬ (w.heap.size = w1.heap.size) := (by omega); have e1_0 : ¬ (w1.heap.size = w.heap.size) := (by omega))
    go_wp2_with (go_at_call 59; refine K.call (by with_reducible rfl) (by with_reducible rfl) (HF _) ?_; rintro e w_ ⟨rfl, rfl⟩)
    rw [HE.out]
    refine bodyPost_ret (v := .int .i64 2) (by unfold results; rw [Tryz.results64]; go_simp) rfl ⟨rfl, ?_⟩
    repeat with_reducible refine K.Ext.setCell ?_ (by dsimp only; omega) _
    exact (by repeat' (first | with_reducible exact X1 | with_reducible refine K.Ext.setCell ?_ ?_ _ | with_reducible refine K.Ext.alloc ?_ _ | with_reducible refine K.Ext.drew ?_ | (dsimp only; omega) | omega | (simp; omega)))
  have ha' : (a == 0) = false := by simpa using ha
  by_cases hb : b = 0
  · rw [if_pos (.inr hb)] at HE
    subst hb
    have X0 : K.Ext w w := K.Ext.refl w
    go_enter Tryz.func64, Tryz.ntmps64
    go_wp2_with (go_at_call 52; refine K.call (by with_reducible rfl) (by with_reducible rfl) (HG _) ?_; rintro e w1 ⟨rfl, x1⟩; have s1 : w.heap.size + 1 ≤ w1.heap.size := (by have h_ := x1.size; (try simp at h_); omega); have X1 := K.Ext.trans (K.Ext.alloc X0 _) x1; obtain ⟨c1_0_0, c1_0_1⟩ := K.c2 x1 (w.heap.size) (.int .i64 f.1) (.int .i64 f.2) (by go_simp); have z1_0 : w.heap.size < w1.heap.size := World.block_lt_of_cell? w1 _ c1_0_0; have d1_0 : ¬ (w.heap.size = w1.heap.size) := (by omega); have e1_0 : ¬ (w1.heap.size = w.heap.size) := (by omega))
    go_wp2_with (go_at_call 59; refine K.call (by with_reducible rfl) (by with_reducible rfl) (HF _) ?_; rintro e w_ ⟨rfl, rfl⟩)
    go_wp2_with (go_at_call 59; refine K.call (by with_reducible rfl) (by with_reducible rfl) (HT _) ?_; rintro e w_ ⟨rfl, rfl⟩)
    rw [HE.out]
    refine bodyPost_ret (v := .int .i64 2) (by unfold results; rw [Tryz.results64]; go_simp) rfl ⟨rfl, ?_⟩
    repeat with_reducible refine K.Ext.setCell ?_ (by dsimp only; omega) _
    exact (by repeat' (first | with_reducible exact X1 | with_reducible refine K.Ext.setCell ?_ ?_ _ | with_reducible refine K.Ext.alloc ?_ _ | with_reducible refine K.Ext.drew ?_ | (dsimp only; omega) | omega | (simp; omega)))
  have hb' : (b == 0) = false := by simpa using hb
  rw [if_neg (by simp [ha, hb])] at HE
  have X0 : K.Ext w w := K.Ext.refl w
  go_enter Tryz.func64, Tryz.ntmps64
  go_wp2_with (go_at_call 52; refine K.call (by with_reducible rfl) (by with_reducible rfl) (HG _) ?_; rintro e w1 ⟨rfl, x1⟩; have s1 : w.heap.size + 1 ≤ w1.heap.size := (by have h_ := x1.size; (try simp at h_); omega); have X1 := K.Ext.trans (K.Ext.alloc X0 _) x1; obtain ⟨c1_0_0, c1_0_1⟩ := K.c2 x1 (w.heap.size) (.int .i64 f.1) (.int .i64 f.2) (by go_simp); have z1_0 : w.heap.size < w1.heap.size := World.block_lt_of_cell? w1 _ c1_0_0; have d1_0 : ¬ (w.heap.size = w1.heap.size) := (by omega); have e1_0 : ¬ (w1.heap.size = w.heap.size) := (by omega))
  go_wp2_with (go_at_call 59; refine K.call (by with_reducible rfl) (by with_reducible rfl) (HF _) ?_; rintro e w_ ⟨rfl, rfl⟩)
  go_wp2_with (go_at_call 59; refine K.call (by with_reducible rfl) (by with_reducible rfl) (HT _) ?_; rintro e w_ ⟨rfl, rfl⟩)
  rw [HE.out]
  refine bodyPost_ret (v := .int .i64 0) (by unfold results; rw [Tryz.results64]; go_simp) rfl ⟨rfl, ?_⟩
  repeat with_reducible refine K.Ext.setCell ?_ (by dsimp only; omega) _
  exact (by repeat' (first | with_reducible exact X1 | with_reducible refine K.Ext.setCell ?_ ?_ _ | with_reducible refine K.Ext.alloc ?_ _ | with_reducible refine K.Ext.drew ?_ | (dsimp only; omega) | omega | (simp; omega)))
set_option maxRecDepth 100000 in
set_option maxHeartbeats 6400000 in
theorem spec_PlaceTransfer (fr : Int) (to : Int) (f : Int × Int) (rd : Int × Int)  (w : World)   :
    Calls Tryz.prog 32 #[.int .i64 fr, .int .i64 to, .agg #[.int .i64 f.1, .int .i64 f.2], .agg #[.int .i64 rd.1, .int .i64 rd.2]] w fun e w' => e = .returned (.tuple #[.agg #[.int .i64 ((Z.plO fr to f rd).1).1, .int .i64 ((Z.plO fr to f rd).1).2], .int .i64 ((Z.plO fr to f rd).2)]) ∧ K.Ext w w' := by
  obtain ⟨M, hM⟩ : ∃ M, Z.plO fr to f rd = M := ⟨_, rfl⟩
  have HM : Hid (M = if (Z.isFig f.1 f.2 && Z.isFig rd.1 rd.2) = false then ((0, 0), 1) else if Z.ordS fr = 0 ∨ Z.ordS to = 0 then ((0, 0), 2) else Z.plc rd.1 (Z.scaleD (Z.figLog f) (Z.powS fr to).1 (Z.powS fr to).2)) := Z.hide (by rw [← hM]; rfl)
  rw [hM]
  clear hM
  have HX := Z.hide (fun w => l17Exact_any fr to f w)
  have HXE : Hid (Z.xCode fr to (Z.isFig f.1 f.2) = if Z.isFig f.1 f.2 = false then 1 else if Z.ordS fr = 0 ∨ Z.ordS to = 0 then 2 else 0) := Z.hide rfl
  have HG := fun w => spec_IsFigure rd.1 rd.2 w
  obtain ⟨c, hc⟩ : ∃ c, Z.xCode fr to (Z.isFig f.1 f.2) = c := ⟨_, rfl⟩
  rw [hc] at HX HXE
  clear hc
  cases hr : Z.isFig rd.1 rd.2
  · rw [hr] at HG
    have HE : Hid (M = ((0, 0), 1)) := Z.hide (by rw [HM.out, hr, Bool.and_false]; rfl)
    clear HM HXE hr
    have X0 : K.Ext w w := K.Ext.refl w
    go_enter Tryz.func32, Tryz.ntmps32
    go_wp2_with (go_at_call 64; refine K.call (by with_reducible rfl) (by with_reducible rfl) (HX.out _) ?_; rintro e w1 ⟨rfl, x1⟩; have s1 : w.heap.size + 3 ≤ w1.heap.size := (by have h_ := x1.size; (try simp at h_); omega); have X1 := K.Ext.trans (K.Ext.alloc (K.Ext.alloc (K.Ext.alloc X0 _) _) _) x1; obtain ⟨c1_0_0, c1_0_1⟩ := K.c2 x1 (w.heap.size) (.int .i64 f.1) (.int .i64 f.2) (by go_simp); have z1_0 : w.heap.size < w1.heap.size := World.block_lt_of_cell? w1 _ c1_0_0; have d1_0 : ¬ (w.heap.size = w1.heap.size) := (by omega); have e1_0 : ¬ (w1.heap.size = w.heap.size) := (by omega); obtain ⟨c1_1_0, c1_1_1⟩ := K.c2 x1 (w.heap.size + 1) (.int .i64 rd.1) (.int .i64 rd.2) (by go_simp); have z1_1 : w.heap.size + 1 < w1.heap.size := World.block_lt_of_cell? w1 _ c1_1_0; have d1_1 : ¬ (w.heap.size + 1 = w1.heap.size) := (by omega); have e1_1 : ¬ (w1.heap.size = w.heap.size + 1) := (by omega); have n1_0 : ¬ (w.heap.size + 1 = w.heap.size) := (by omega); have n0_1 : ¬ (w.heap.size = w.heap.size + 1) := (by omega); obtain ⟨c1_2_0, c1_2_1⟩ := K.c2 x1 (w.heap.size + 1 + 1) (.int .i64 0) (.int .i64 0) (by go_simp); obtain ⟨f1_2_0, f1_2_1⟩ := K.f2 x1 (w.heap.size + 1 + 1) (by go_simp); have z1_2 : w.heap.size + 1 + 1 < w1.heap.size := World.block_lt_of_cell? w1 _ c1_2_0; have d1_2 : ¬ (w.heap.size + 1 + 1 = w1.heap.size) := (by omega); have e1_2 : ¬ (w1.heap.size = w.heap.size + 1 + 1) := (by omega); have n2_0 : ¬ (w.heap.size + 1 + 1 = w.heap.size) := (by omega); have n0_2 : ¬ (w.heap.size = w.heap.size + 1 + 1) := (by omega); have n2_1 : ¬ (w.heap.size + 1 + 1 = w.heap.size + 1) := (by omega); have n1_2 : ¬ (w.heap.size + 1 = w.heap.size + 1 + 1) := (by omega))
    go_wp2_with (go_at_call 52; refine K.call (by with_reducible rfl) (by with_reducible rfl) (HG _) ?_; rintro e w2 ⟨rfl, x2⟩; have s2 : w1.heap.size ≤ w2.heap.size := (by have h_ := x2.size; (try simp at h_); omega); have X2 := K.Ext.trans (X1) x2; obtain ⟨c2_0_0, c2_0_1⟩ := K.c2 x2 (w.heap.size) (.int .i64 f.1) (.int .i64 f.2) (by go_simp); have z2_0 : w.heap.size < w2.heap.size := World.block_lt_of_cell? w2 _ c2_0_0; have d2_0 : ¬ (w.heap.size = w2.heap.size) := (by omega); have e2_0 : ¬ (w2.heap.size = w.heap.size) := (by omega); obtain ⟨c2_1_0, c2_1_1⟩ := K.c2 x2 (w.heap.size + 1) (.int .i64 rd.1) (.int .i64 rd.2) (by go_simp); have z2_1 : w.heap.size + 1 < w2.heap.size := World.block_lt_of_cell? w2 _ c2_1_0; have d2_1 : ¬ (w.heap.size + 1 = w2.heap.size) := (by omega); have e2_1 : ¬ (w2.heap.size = w.heap.size + 1) := (by omega); obtain ⟨c2_2_0, c2_2_1⟩ := K.c2 x2 (w.heap.size + 1 + 1) (.int .i64 0) (.int .i64 0) (by go_simp); obtain ⟨f2_2_0, f2_2_1⟩ := K.f2 x2 (w.heap.size + 1 + 1) (by go_simp); have z2_2 : w.heap.size + 1 + 1 < w2.heap.size := World.block_lt_of_cell? w2 _ c2_2_0; have d2_2 : ¬ (w.heap.size + 1 + 1 = w2.heap.size) := (by omega); have e2_2 : ¬ (w2.heap.size = w.heap.size + 1 + 1) := (by omega); clear c1_0_0 c1_0_1 z1_0 d1_0 e1_0 c1_1_0 c1_1_1 z1_1 d1_1 e1_1 c1_2_0 c1_2_1 f1_2_0 f1_2_1 z1_2 d1_2 e1_2)
    rw [HE.out]
    refine bodyPost_ret (v := .tuple #[.agg #[.int .i64 0, .int .i64 0], .int .i64 1]) (by unfold results; rw [Tryz.results32]; go_simp) rfl ⟨rfl, ?_⟩
    repeat with_reducible refine K.Ext.setCell ?_ (by dsimp only; omega) _
    exact (by repeat' (first | with_reducible exact X2 | with_reducible refine K.Ext.setCell ?_ ?_ _ | with_reducible refine K.Ext.alloc ?_ _ | with_reducible refine K.Ext.drew ?_ | (dsimp only; omega) | omega | (simp; omega)))
  rw [hr] at HG
  by_cases h0 : c = 0
  · subst h0
    have hx := HXE.out
    have hf : Z.isFig f.1 f.2 = true := by
      cases h : Z.isFig f.1 f.2
      · rw [h] at hx; cases hx
      · rfl
    have hab : ¬ (Z.ordS fr = 0 ∨ Z.ordS to = 0) := fun h => by rw [hf, if_neg (by decide), if_pos h] at hx; cases hx
    have HE0 : Hid (M = Z.plc rd.1 (Z.scaleD (Z.figLog f) (Z.powS fr to).1 (Z.powS fr to).2)) := Z.hide (by rw [HM.out, hf, hr, if_neg (by decide), if_neg hab])
    clear HXE hx HM
    have HP := fun w => l17Power_any fr to w
    have pb := Z.pow_bd (to := to) (fun h => hab (.inl h))
    generalize Z.powS fr to = pw at *
    obtain ⟨n, d⟩ := pw
    dsimp only at pb HP HE0
    obtain ⟨⟨f1, f2⟩, f3, f4⟩ := Z.isFig_parts hf
    obtain ⟨⟨r1, r2⟩, _⟩ := Z.isFig_parts hr
    have HL := Z.hide (fun w => l03Figure_any f w hf)
    have lb := Z.figLog_lq f1 f2
    generalize Z.figLog f = l at *
    have HS := Z.hide (fun w => l03ScaleD_any l n d w ⟨by omega, by omega⟩ ⟨by omega, by omega⟩ ⟨by omega, by omega⟩ (by omega) ⟨by omega, by omega⟩)
    have sb := Z.scaleD_bd (a := l) (n := n) (d := d) ⟨by omega, by omega⟩ ⟨by omega, by omega⟩ pb.1 (by omega)
    generalize Z.scaleD l n d = sc at *
    have hl := Z.figLog_lq (f := (rd.1, 0)) r1 r2
    dsimp only at hl
    have hgb := Z.gap_bd r1 r2 sb
    have HGP : Hid (Z.gapS rd.1 sc = sc.1 + sc.2 - (Z.figLog (rd.1, 0)).1 - (Z.figLog (rd.1, 0)).2) := Z.hide rfl
    have HLG : Hid (∀ w : World, Calls Tryz.prog 68 #[.int .i64 (rd.1 * 100000)] w fun e w' => e = .returned (.agg #[.int .i64 (Z.figLog (rd.1, 0)).1, .int .i64 (Z.figLog (rd.1, 0)).2]) ∧ K.Ext w w') := Z.hide (fun w => by
      have h_ := l03Log_any (rd.1 * 100000) w (by omega) (by omega)
      have e1 : Z.logOf (rd.1 * 100000) = Z.figLog (rd.1, 0) := by unfold Z.figLog; exact Prod.ext (by dsimp only; omega) (by dsimp only; omega)
      rwa [e1] at h_)
    have HE : Hid (M = Z.figOr (rd.1, Z.tenS (Z.gapS rd.1 sc))) := Z.hide HE0.out
    clear HE0
    have qr : IntKind.i64.wrap (rd.1 * 100000) = rd.1 * 100000 := IntWalk.i64_in _ (by omega)
    generalize Z.figLog (rd.1, 0) = r at *
    generalize Z.gapS rd.1 sc = g at *
    have HT : Hid (Z.tenS g = if 1048576 < g - 2097152 * Z.fl g 2097152 then Z.fl g 2097152 + 1 else Z.fl g 2097152) := Z.hide rfl
    have HD : Hid (∀ w : World, Calls Tryz.prog 69 #[.int .i64 g, .int .i64 2097152] w fun e w' => e = .returned (.int .i64 (Z.fl g 2097152)) ∧ w = w') := Z.hide (fun w => l01Floor_any g 2097152 w (by decide) (by omega) (by omega) (by decide) (by decide))
    obtain ⟨t1, t2⟩ := Z.fl_spec g 2097152 (by decide)
    generalize Z.fl g 2097152 = t at *
    have q1 : IntKind.i64.wrap (sc.1 + sc.2) = sc.1 + sc.2 := IntWalk.i64_in _ (by omega)
    have q2 : IntKind.i64.wrap (sc.1 + sc.2 - r.1) = sc.1 + sc.2 - r.1 := IntWalk.i64_in _ (by omega)
    have q3 : IntKind.i64.wrap (sc.1 + sc.2 - r.1 - r.2) = g := by rw [HGP.out]; exact IntWalk.i64_in _ (by omega)
    have q4 : IntKind.i64.wrap (t + 1) = t + 1 := IntWalk.i64_in _ (by omega)
    have q6 : IntKind.i64.wrap (2097152 * t) = 2097152 * t := IntWalk.i64_in _ (by omega)
    have q7 : IntKind.i64.wrap (g - 2097152 * t) = g - 2097152 * t := IntWalk.i64_in _ (by omega)
    clear HGP hl hab hf hr lb sb
    by_cases hc : 1048576 < g - 2097152 * t
    · rw [if_pos hc] at HT
      rw [HT.out] at HE
      have HR := Z.hide (fun w => l02Result_any rd.1 (t + 1) w)
      generalize Z.figOr (rd.1, t + 1) = F at *
      clear HT
      have X0 : K.Ext w w := K.Ext.refl w
      go_enter Tryz.func32, Tryz.ntmps32
      go_wp2_with (go_at_call 64; refine K.call (by with_reducible rfl) (by with_reducible rfl) (HX.out _) ?_; rintro e w1 ⟨rfl, x1⟩; have s1 : w.heap.size + 3 ≤ w1.heap.size := (by have h_ := x1.size; (try simp at h_); omega); have X1 : K.Ext w w1 := K.Ext.trans (by repeat' (first | with_reducible exact X0 | with_reducible refine K.Ext.setCell ?_ ?_ _ | with_reducible refine K.Ext.alloc ?_ _ | with_reducible refine K.Ext.drew ?_ | (dsimp only; omega) | omega | (simp; omega))) x1; obtain ⟨c1_0_0, c1_0_1⟩ := K.c2 x1 (w.heap.size) (.int .i64 f.1) (.int .i64 f.2) (by go_simp); have z1_0 : w.heap.size < w1.heap.size := World.block_lt_of_cell? w1 _ c1_0_0; have d1_0 : ¬ (w.heap.size = w1.heap.size) := (by omega); have e1_0 : ¬ (w1.heap.size = w.heap.size) := (by omega); obtain ⟨c1_1_0, c1_1_1⟩ := K.c2 x1 (w.heap.size + 1) (.int .i64 rd.1) (.int .i64 rd.2) (by go_simp); have z1_1 : w.heap.size + 1 < w1.heap.size := World.block_lt_of_cell? w1 _ c1_1_0; have d1_1 : ¬ (w.heap.size + 1 = w1.heap.size) := (by omega); have e1_1 : ¬ (w1.heap.size = w.heap.size + 1) := (by omega); have n1_0 : ¬ (w.heap.size + 1 = w.heap.size) := (by omega); have n0_1 : ¬ (w.heap.size = w.heap.size + 1) := (by omega); obtain ⟨c1_2_0, c1_2_1⟩ := K.c2 x1 (w.heap.size + 1 + 1) (.int .i64 0) (.int .i64 0) (by go_simp); obtain ⟨f1_2_0, f1_2_1⟩ := K.f2 x1 (w.heap.size + 1 + 1) (by go_simp); have z1_2 : w.heap.size + 1 + 1 < w1.heap.size := World.block_lt_of_cell? w1 _ c1_2_0; have d1_2 : ¬ (w.heap.size + 1 + 1 = w1.heap.size) := (by omega); have e1_2 : ¬ (w1.heap.size = w.heap.size + 1 + 1) := (by omega); have n2_0 : ¬ (w.heap.size + 1 + 1 = w.heap.size) := (by omega); have n0_2 : ¬ (w.heap.size = w.heap.size + 1 + 1) := (by omega); have n2_1 : ¬ (w.heap.size + 1 + 1 = w.heap.size + 1) := (by omega); have n1_2 : ¬ (w.heap.size + 1 = w.heap.size + 1 + 1) := (by omega))
      go_wp2_with (go_at_call 52; refine K.call (by with_reducible rfl) (by with_reducible rfl) (HG _) ?_; rintro e w2 ⟨rfl, x2⟩; have s2 : w1.heap.size ≤ w2.heap.size := (by have h_ := x2.size; (try simp at h_); omega); have X2 := K.Ext.trans (X1) x2; obtain ⟨c2_0_0, c2_0_1⟩ := K.c2 x2 (w.heap.size) (.int .i64 f.1) (.int .i64 f.2) (by go_simp); have z2_0 : w.heap.size < w2.heap.size := World.block_lt_of_cell? w2 _ c2_0_0; have d2_0 : ¬ (w.heap.size = w2.heap.size) := (by omega); have e2_0 : ¬ (w2.heap.size = w.heap.size) := (by omega); obtain ⟨c2_1_0, c2_1_1⟩ := K.c2 x2 (w.heap.size + 1) (.int .i64 rd.1) (.int .i64 rd.2) (by go_simp); have z2_1 : w.heap.size + 1 < w2.heap.size := World.block_lt_of_cell? w2 _ c2_1_0; have d2_1 : ¬ (w.heap.size + 1 = w2.heap.size) := (by omega); have e2_1 : ¬ (w2.heap.size = w.heap.size + 1) := (by omega); obtain ⟨c2_2_0, c2_2_1⟩ := K.c2 x2 (w.heap.size + 1 + 1) (.int .i64 0) (.int .i64 0) (by go_simp); obtain ⟨f2_2_0, f2_2_1⟩ := K.f2 x2 (w.heap.size + 1 + 1) (by go_simp); have z2_2 : w.heap.size + 1 + 1 < w2.heap.size := World.block_lt_of_cell? w2 _ c2_2_0; have d2_2 : ¬ (w.heap.size + 1 + 1 = w2.heap.size) := (by omega); have e2_2 : ¬ (w2.heap.size = w.heap.size + 1 + 1) := (by omega); clear c1_0_0 c1_0_1 z1_0 d1_0 e1_0 c1_1_0 c1_1_1 z1_1 d1_1 e1_1 c1_2_0 c1_2_1 f1_2_0 f1_2_1 z1_2 d1_2 e1_2)
      go_wp2_with (go_at_call 65; refine K.call (by with_reducible rfl) (by with_reducible rfl) (HP _) ?_; rintro e w3 ⟨rfl, x3⟩; have s3 : w2.heap.size ≤ w3.heap.size := (by have h_ := x3.size; (try simp at h_); omega); have X3 := K.Ext.trans (X2) x3; obtain ⟨c3_0_0, c3_0_1⟩ := K.c2 x3 (w.heap.size) (.int .i64 f.1) (.int .i64 f.2) (by go_simp); have z3_0 : w.heap.size < w3.heap.size := World.block_lt_of_cell? w3 _ c3_0_0; have d3_0 : ¬ (w.heap.size = w3.heap.size) := (by omega); have e3_0 : ¬ (w3.heap.size = w.heap.size) := (by omega); obtain ⟨c3_1_0, c3_1_1⟩ := K.c2 x3 (w.heap.size + 1) (.int .i64 rd.1) (.int .i64 rd.2) (by go_simp); have z3_1 : w.heap.size + 1 < w3.heap.size := World.block_lt_of_cell? w3 _ c3_1_0; have d3_1 : ¬ (w.heap.size + 1 = w3.heap.size) := (by omega); have e3_1 : ¬ (w3.heap.size = w.heap.size + 1) := (by omega); obtain ⟨c3_2_0, c3_2_1⟩ := K.c2 x3 (w.heap.size + 1 + 1) (.int .i64 0) (.int .i64 0) (by go_simp); obtain ⟨f3_2_0, f3_2_1⟩ := K.f2 x3 (w.heap.size + 1 + 1) (by go_simp); have z3_2 : w.heap.size + 1 + 1 < w3.heap.size := World.block_lt_of_cell? w3 _ c3_2_0; have d3_2 : ¬ (w.heap.size + 1 + 1 = w3.heap.size) := (by omega); have e3_2 : ¬ (w3.heap.size = w.heap.size + 1 + 1) := (by omega); clear c2_0_0 c2_0_1 z2_0 d2_0 e2_0 c2_1_0 c2_1_1 z2_1 d2_1 e2_1 c2_2_0 c2_2_1 f2_2_0 f2_2_1 z2_2 d2_2 e2_2)
      go_wp2_with fail
      refine K.wp_region_y (R := K.RE) 11 [1, 2, 0, 0, 2, 0, 1, 0, 2, 2, 2] [K.SQ.any, K.SQ.is (.agg #[.int .i64 l.1, .int .i64 l.2]), K.SQ.any, K.SQ.any, K.SQ.is (.agg #[.int .i64 sc.1, .int .i64 sc.2]), K.SQ.any, K.SQ.any, K.SQ.any, K.SQ.is (.agg #[.int .i64 r.1, .int .i64 r.2]), K.SQ.new (w3.heap.size) (Nat.zero_le _) (.cells #[.int .i64 0, .int .i64 0] 82), K.SQ.new (w3.heap.size) (Nat.zero_le _) (.cells #[.int .i64 0, .int .i64 0] 82)] (by kernel_rfl) (by kernel_rfl) ?_
      simp only [List.take_succ_cons, List.take_zero, List.drop_succ_cons, List.drop_zero]
      apply K.y_held
      · rfl
      · rfl
      · intro w' hx; have hx : K.Ext _ _ := hx; have hc := hx.all.1.1; have hf := hx.all.1.2; have hc' := hx.all.2.1; have hf' := hx.all.2.2; go_simp; first | done | rfl | exact ⟨rfl, rfl⟩
      simp only [Act.put, List.setIfInBounds_toArray, List.set]
      apply K.y_call_is
      · rfl
      · rfl
      · rfl
      · intro w'; go_simp; first | done | rfl | exact ⟨rfl, rfl⟩
      · intro w' hx hp; have hx : K.Ext _ _ := hx; have hc := hx.all.1.1; have hf := hx.all.1.2; have hc' := hx.all.2.1; have hf' := hx.all.2.2; exact HL.out _
      intro w_1_ hx_1_
      replace hx_1_ : K.Ext _ _ := hx_1_
      simp only [Act.put, List.setIfInBounds_toArray, List.set]
      iterate 2
        apply K.y_pure
        · rfl
        · rfl
        · intro w'; go_simp; first | done | exact K.vint (IntWalk.i64_in _ (by omega)) | rfl | exact ⟨rfl, rfl⟩
        simp only [Act.put, List.setIfInBounds_toArray, List.set]
      apply K.y_call_is
      · rfl
      · rfl
      · rfl
      · intro w'; go_simp; first | done | rfl | exact ⟨rfl, rfl⟩
      · intro w' hx hp; have hx : K.Ext _ _ := hx; have hc := hx.all.1.1; have hf := hx.all.1.2; have hc' := hx.all.2.1; have hf' := hx.all.2.2; exact HS.out _
      intro w_4_ hx_4_
      replace hx_4_ : K.Ext _ _ := hx_4_
      simp only [Act.put, List.setIfInBounds_toArray, List.set]
      apply K.y_pure
      · rfl
      · rfl
      · intro w'; go_simp; first | done | exact K.vint (IntWalk.i64_in _ (by omega)) | rfl | exact ⟨rfl, rfl⟩
      simp only [Act.put, List.setIfInBounds_toArray, List.set]
      apply K.y_held
      · rfl
      · rfl
      · intro w' hx; have hx : K.Ext _ _ := hx; have hc := hx.all.1.1; have hf := hx.all.1.2; have hc' := hx.all.2.1; have hf' := hx.all.2.2; go_simp; first | done | rfl | exact ⟨rfl, rfl⟩
      simp only [Act.put, List.setIfInBounds_toArray, List.set]
      apply K.y_pure
      · rfl
      · rfl
      · intro w'; go_simp; first | done | exact K.vint (IntWalk.i64_in _ (by omega)) | rfl | exact ⟨rfl, rfl⟩
      simp only [Act.put, List.setIfInBounds_toArray, List.set]
      apply K.y_call_is
      · rfl
      · rfl
      · rfl
      · intro w'; go_simp; first | done | rfl | exact ⟨rfl, rfl⟩
      · intro w' hx hp; have hx : K.Ext _ _ := hx; have hc := hx.all.1.1; have hf := hx.all.1.2; have hc' := hx.all.2.1; have hf' := hx.all.2.2; exact HLG.out _
      intro w_8_ hx_8_
      replace hx_8_ : K.Ext _ _ := hx_8_
      simp only [Act.put, List.setIfInBounds_toArray, List.set]
      apply K.y_new (Nat.zero_le _)
      · rfl
      · rfl
      · rfl
      · go_simp; first | done | omega
      · intro w'; go_simp; first | done | rfl | exact ⟨rfl, rfl⟩
      intro g7_9 w_9_ hx_9_ hg7_9 hb_9_ hn_9_
      replace hx_9_ : K.Ext _ _ := hx_9_
      clear hn_9_
      simp only [Act.put, List.setIfInBounds_toArray, List.set]
      apply K.y_new (Nat.zero_le _)
      · rfl
      · rfl
      · rfl
      · go_simp; first | done | omega
      · intro w'; go_simp; first | done | rfl | exact ⟨rfl, rfl⟩
      intro g7_10 w_10_ hx_10_ hg7_10 hb_10_ hn_10_
      replace hx_10_ : K.Ext _ _ := hx_10_
      have ne7_9_10 : ¬ (g7_9 = g7_10) := K.blk_ptr (hn_10_ 9 _ (by decide) rfl rfl rfl)
      have ne7_10_9 : ¬ (g7_10 = g7_9) := fun e => ne7_9_10 e.symm
      clear hn_10_
      simp only [Act.put, List.setIfInBounds_toArray, List.set]
      apply K.y_done
      intro w4 h_x
      replace h_x : K.Ext _ _ := h_x
      have x4 := hx_1_.trans (hx_4_.trans (hx_8_.trans (hx_9_.trans (hx_10_.trans h_x))))
      have hb7_9 := K.Ext.block (hx_10_.trans h_x) hb_9_
      have cg7_9_0 : w4.cell? ⟨g7_9, 0, none⟩ = some (.int .i64 0) := K.cell_at hb7_9 rfl
      have fg7_9_0 : w4.frozen? ⟨g7_9, 0, none⟩ = false := K.thaw_at hb7_9
      have cg7_9_1 : w4.cell? ⟨g7_9, 1, none⟩ = some (.int .i64 0) := K.cell_at hb7_9 rfl
      have fg7_9_1 : w4.frozen? ⟨g7_9, 1, none⟩ = false := K.thaw_at hb7_9
      have hb7_10 := K.Ext.block (h_x) hb_10_
      have cg7_10_0 : w4.cell? ⟨g7_10, 0, none⟩ = some (.int .i64 0) := K.cell_at hb7_10 rfl
      have fg7_10_0 : w4.frozen? ⟨g7_10, 0, none⟩ = false := K.thaw_at hb7_10
      have cg7_10_1 : w4.cell? ⟨g7_10, 1, none⟩ = some (.int .i64 0) := K.cell_at hb7_10 rfl
      have fg7_10_1 : w4.frozen? ⟨g7_10, 1, none⟩ = false := K.thaw_at hb7_10
      clear h_x hx_1_ hx_4_ hx_8_ hx_9_ hx_10_
      obtain ⟨⟨hcw4, hfw4⟩, hc'w4, hf'w4⟩ := x4.all
      have s4 : w3.heap.size ≤ w4.heap.size := (by have h_ := x4.size; (try simp at h_); omega)
      have X4 := K.Ext.trans (K.Ext.drew (X3)) x4
      obtain ⟨c4_0_0, c4_0_1⟩ := K.c2 x4 (w.heap.size) (.int .i64 f.1) (.int .i64 f.2) (by go_simp)
      have z4_0 : w.heap.size < w4.heap.size := World.block_lt_of_cell? w4 _ c4_0_0
      have d4_0 : ¬ (w.heap.size = w4.heap.size) := (by omega)
      have e4_0 : ¬ (w4.heap.size = w.heap.size) := (by omega)
      obtain ⟨c4_1_0, c4_1_1⟩ := K.c2 x4 (w.heap.size + 1) (.int .i64 rd.1) (.int .i64 rd.2) (by go_simp)
      have z4_1 : w.heap.size + 1 < w4.heap.size := World.block_lt_of_cell? w4 _ c4_1_0
      have d4_1 : ¬ (w.heap.size + 1 = w4.heap.size) := (by omega)
      have e4_1 : ¬ (w4.heap.size = w.heap.size + 1) := (by omega)
      obtain ⟨c4_2_0, c4_2_1⟩ := K.c2 x4 (w.heap.size + 1 + 1) (.int .i64 0) (.int .i64 0) (by go_simp)
      obtain ⟨f4_2_0, f4_2_1⟩ := K.f2 x4 (w.heap.size + 1 + 1) (by go_simp)
      have z4_2 : w.heap.size + 1 + 1 < w4.heap.size := World.block_lt_of_cell? w4 _ c4_2_0
      have d4_2 : ¬ (w.heap.size + 1 + 1 = w4.heap.size) := (by omega)
      have e4_2 : ¬ (w4.heap.size = w.heap.size + 1 + 1) := (by omega)
      have nng7_9_0 : ¬ (g7_9 = w.heap.size) := (by omega)
      have nmg7_9_0 : ¬ (w.heap.size = g7_9) := (by omega)
      have nng7_9_1 : ¬ (g7_9 = w.heap.size + 1) := (by omega)
      have nmg7_9_1 : ¬ (w.heap.size + 1 = g7_9) := (by omega)
      have nng7_9_2 : ¬ (g7_9 = w.heap.size + 1 + 1) := (by omega)
      have nmg7_9_2 : ¬ (w.heap.size + 1 + 1 = g7_9) := (by omega)
      have nng7_10_0 : ¬ (g7_10 = w.heap.size) := (by omega)
      have nmg7_10_0 : ¬ (w.heap.size = g7_10) := (by omega)
      have nng7_10_1 : ¬ (g7_10 = w.heap.size + 1) := (by omega)
      have nmg7_10_1 : ¬ (w.heap.size + 1 = g7_10) := (by omega)
      have nng7_10_2 : ¬ (g7_10 = w.heap.size + 1 + 1) := (by omega)
      have nmg7_10_2 : ¬ (w.heap.size + 1 + 1 = g7_10) := (by omega)
      clear c3_0_0 c3_0_1 z3_0 d3_0 e3_0 c3_1_0 c3_1_1 z3_1 d3_1 e3_1 c3_2_0 c3_2_1 f3_2_0 f3_2_1 z3_2 d3_2 e3_2
      go_wp2_with fail
      refine NoPanic.normal ?_
      go_wp2_with (go_at_call 69; refine K.call (by with_reducible rfl) (by with_reducible rfl) (HD.out _) ?_; rintro e w_ ⟨rfl, rfl⟩)
      go_wp2_with (go_at_call 70; refine K.call (by with_reducible rfl) (by with_reducible rfl) (HR.out _) ?_; rintro e w6 ⟨rfl, x6⟩; have s6 : w4.heap.size ≤ w6.heap.size := (by have h_ := x6.size; (try simp at h_); omega); have X6 : K.Ext w w6 := K.Ext.trans (by repeat' (first | with_reducible exact X4 | with_reducible refine K.Ext.setCell ?_ ?_ _ | with_reducible refine K.Ext.alloc ?_ _ | with_reducible refine K.Ext.drew ?_ | (dsimp only; omega) | omega | (simp; omega))) x6; obtain ⟨c6_0_0, c6_0_1⟩ := K.c2 x6 (w.heap.size) (.int .i64 f.1) (.int .i64 f.2) (by go_simp); have z6_0 : w.heap.size < w6.heap.size := World.block_lt_of_cell? w6 _ c6_0_0; have d6_0 : ¬ (w.heap.size = w6.heap.size) := (by omega); have e6_0 : ¬ (w6.heap.size = w.heap.size) := (by omega); obtain ⟨c6_1_0, c6_1_1⟩ := K.c2 x6 (w.heap.size + 1) (.int .i64 rd.1) (.int .i64 rd.2) (by go_simp); have z6_1 : w.heap.size + 1 < w6.heap.size := World.block_lt_of_cell? w6 _ c6_1_0; have d6_1 : ¬ (w.heap.size + 1 = w6.heap.size) := (by omega); have e6_1 : ¬ (w6.heap.size = w.heap.size + 1) := (by omega); obtain ⟨c6_2_0, c6_2_1⟩ := K.c2 x6 (w.heap.size + 1 + 1) (.int .i64 0) (.int .i64 0) (by go_simp); obtain ⟨f6_2_0, f6_2_1⟩ := K.f2 x6 (w.heap.size + 1 + 1) (by go_simp); have z6_2 : w.heap.size + 1 + 1 < w6.heap.size := World.block_lt_of_cell? w6 _ c6_2_0; have d6_2 : ¬ (w.heap.size + 1 + 1 = w6.heap.size) := (by omega); have e6_2 : ¬ (w6.heap.size = w.heap.size + 1 + 1) := (by omega); obtain ⟨c6_3_0, c6_3_1⟩ := K.c2 x6 (g7_9) (.int .i64 sc.1) (.int .i64 sc.2) (by go_simp); obtain ⟨f6_3_0, f6_3_1⟩ := K.f2 x6 (g7_9) (by go_simp); have z6_3 : g7_9 < w6.heap.size := World.block_lt_of_cell? w6 _ c6_3_0; have d6_3 : ¬ (g7_9 = w6.heap.size) := (by omega); have e6_3 : ¬ (w6.heap.size = g7_9) := (by omega); have n3_0 : ¬ (g7_9 = w.heap.size) := (by omega); have n0_3 : ¬ (w.heap.size = g7_9) := (by omega); have n3_1 : ¬ (g7_9 = w.heap.size + 1) := (by omega); have n1_3 : ¬ (w.heap.size + 1 = g7_9) := (by omega); have n3_2 : ¬ (g7_9 = w.heap.size + 1 + 1) := (by omega); have n2_3 : ¬ (w.heap.size + 1 + 1 = g7_9) := (by omega); obtain ⟨c6_4_0, c6_4_1⟩ := K.c2 x6 (g7_10) (.int .i64 r.1) (.int .i64 r.2) (by go_simp); obtain ⟨f6_4_0, f6_4_1⟩ := K.f2 x6 (g7_10) (by go_simp); have z6_4 : g7_10 < w6.heap.size := World.block_lt_of_cell? w6 _ c6_4_0; have d6_4 : ¬ (g7_10 = w6.heap.size) := (by omega); have e6_4 : ¬ (w6.heap.size = g7_10) := (by omega); have n4_0 : ¬ (g7_10 = w.heap.size) := (by omega); have n0_4 : ¬ (w.heap.size = g7_10) := (by omega); have n4_1 : ¬ (g7_10 = w.heap.size + 1) := (by omega); have n1_4 : ¬ (w.heap.size + 1 = g7_10) := (by omega); have n4_2 : ¬ (g7_10 = w.heap.size + 1 + 1) := (by omega); have n2_4 : ¬ (w.heap.size + 1 + 1 = g7_10) := (by omega); have n4_3 : ¬ (g7_10 = g7_9) := (by omega); have n3_4 : ¬ (g7_9 = g7_10) := (by omega); clear c4_0_0 c4_0_1 z4_0 d4_0 e4_0 c4_1_0 c4_1_1 z4_1 d4_1 e4_1 c4_2_0 c4_2_1 f4_2_0 f4_2_1 z4_2 d4_2 e4_2)
      rw [HE.out]
      refine bodyPost_ret (v := .tuple #[.agg #[.int .i64 F.1.1, .int .i64 F.1.2], .int .i64 F.2]) (by unfold results; rw [Tryz.results32]; go_simp) rfl ⟨rfl, ?_⟩
      repeat with_reducible refine K.Ext.setCell ?_ (by dsimp only; omega) _
      exact (by repeat' (first | with_reducible exact X6 | with_reducible refine K.Ext.setCell ?_ ?_ _ | with_reducible refine K.Ext.alloc ?_ _ | with_reducible refine K.Ext.drew ?_ | (dsimp only; omega) | omega | (simp; omega)))
    · rw [if_neg hc] at HT
      rw [HT.out] at HE
      have HR := Z.hide (fun w => l02Result_any rd.1 t w)
      generalize Z.figOr (rd.1, t) = F at *
      clear HT
      have X0 : K.Ext w w := K.Ext.refl w
      go_enter Tryz.func32, Tryz.ntmps32
      go_wp2_with (go_at_call 64; refine K.call (by with_reducible rfl) (by with_reducible rfl) (HX.out _) ?_; rintro e w1 ⟨rfl, x1⟩; have s1 : w.heap.size + 3 ≤ w1.heap.size := (by have h_ := x1.size; (try simp at h_); omega); have X1 : K.Ext w w1 := K.Ext.trans (by repeat' (first | with_reducible exact X0 | with_reducible refine K.Ext.setCell ?_ ?_ _ | with_reducible refine K.Ext.alloc ?_ _ | with_reducible refine K.Ext.drew ?_ | (dsimp only; omega) | omega | (simp; omega))) x1; obtain ⟨c1_0_0, c1_0_1⟩ := K.c2 x1 (w.heap.size) (.int .i64 f.1) (.int .i64 f.2) (by go_simp); have z1_0 : w.heap.size < w1.heap.size := World.block_lt_of_cell? w1 _ c1_0_0; have d1_0 : ¬ (w.heap.size = w1.heap.size) := (by omega); have e1_0 : ¬ (w1.heap.size = w.heap.size) := (by omega); obtain ⟨c1_1_0, c1_1_1⟩ := K.c2 x1 (w.heap.size + 1) (.int .i64 rd.1) (.int .i64 rd.2) (by go_simp); have z1_1 : w.heap.size + 1 < w1.heap.size := World.block_lt_of_cell? w1 _ c1_1_0; have d1_1 : ¬ (w.heap.size + 1 = w1.heap.size) := (by omega); have e1_1 : ¬ (w1.heap.size = w.heap.size + 1) := (by omega); have n1_0 : ¬ (w.heap.size + 1 = w.heap.size) := (by omega); have n0_1 : ¬ (w.heap.size = w.heap.size + 1) := (by omega); obtain ⟨c1_2_0, c1_2_1⟩ := K.c2 x1 (w.heap.size + 1 + 1) (.int .i64 0) (.int .i64 0) (by go_simp); obtain ⟨f1_2_0, f1_2_1⟩ := K.f2 x1 (w.heap.size + 1 + 1) (by go_simp); have z1_2 : w.heap.size + 1 + 1 < w1.heap.size := World.block_lt_of_cell? w1 _ c1_2_0; have d1_2 : ¬ (w.heap.size + 1 + 1 = w1.heap.size) := (by omega); have e1_2 : ¬ (w1.heap.size = w.heap.size + 1 + 1) := (by omega); have n2_0 : ¬ (w.heap.size + 1 + 1 = w.heap.size) := (by omega); have n0_2 : ¬ (w.heap.size = w.heap.size + 1 + 1) := (by omega); have n2_1 : ¬ (w.heap.size + 1 + 1 = w.heap.size + 1) := (by omega); have n1_2 : ¬ (w.heap.size + 1 = w.heap.size + 1 + 1) := (by omega))
      go_wp2_with (go_at_call 52; refine K.call (by with_reducible rfl) (by with_reducible rfl) (HG _) ?_; rintro e w2 ⟨rfl, x2⟩; have s2 : w1.heap.size ≤ w2.heap.size := (by have h_ := x2.size; (try simp at h_); omega); have X2 := K.Ext.trans (X1) x2; obtain ⟨c2_0_0, c2_0_1⟩ := K.c2 x2 (w.heap.size) (.int .i64 f.1) (.int .i64 f.2) (by go_simp); have z2_0 : w.heap.size < w2.heap.size := World.block_lt_of_cell? w2 _ c2_0_0; have d2_0 : ¬ (w.heap.size = w2.heap.size) := (by omega); have e2_0 : ¬ (w2.heap.size = w.heap.size) := (by omega); obtain ⟨c2_1_0, c2_1_1⟩ := K.c2 x2 (w.heap.size + 1) (.int .i64 rd.1) (.int .i64 rd.2) (by go_simp); have z2_1 : w.heap.size + 1 < w2.heap.size := World.block_lt_of_cell? w2 _ c2_1_0; have d2_1 : ¬ (w.heap.size + 1 = w2.heap.size) := (by omega); have e2_1 : ¬ (w2.heap.size = w.heap.size + 1) := (by omega); obtain ⟨c2_2_0, c2_2_1⟩ := K.c2 x2 (w.heap.size + 1 + 1) (.int .i64 0) (.int .i64 0) (by go_simp); obtain ⟨f2_2_0, f2_2_1⟩ := K.f2 x2 (w.heap.size + 1 + 1) (by go_simp); have z2_2 : w.heap.size + 1 + 1 < w2.heap.size := World.block_lt_of_cell? w2 _ c2_2_0; have d2_2 : ¬ (w.heap.size + 1 + 1 = w2.heap.size) := (by omega); have e2_2 : ¬ (w2.heap.size = w.heap.size + 1 + 1) := (by omega); clear c1_0_0 c1_0_1 z1_0 d1_0 e1_0 c1_1_0 c1_1_1 z1_1 d1_1 e1_1 c1_2_0 c1_2_1 f1_2_0 f1_2_1 z1_2 d1_2 e1_2)
      go_wp2_with (go_at_call 65; refine K.call (by with_reducible rfl) (by with_reducible rfl) (HP _) ?_; rintro e w3 ⟨rfl, x3⟩; have s3 : w2.heap.size ≤ w3.heap.size := (by have h_ := x3.size; (try simp at h_); omega); have X3 := K.Ext.trans (X2) x3; obtain ⟨c3_0_0, c3_0_1⟩ := K.c2 x3 (w.heap.size) (.int .i64 f.1) (.int .i64 f.2) (by go_simp); have z3_0 : w.heap.size < w3.heap.size := World.block_lt_of_cell? w3 _ c3_0_0; have d3_0 : ¬ (w.heap.size = w3.heap.size) := (by omega); have e3_0 : ¬ (w3.heap.size = w.heap.size) := (by omega); obtain ⟨c3_1_0, c3_1_1⟩ := K.c2 x3 (w.heap.size + 1) (.int .i64 rd.1) (.int .i64 rd.2) (by go_simp); have z3_1 : w.heap.size + 1 < w3.heap.size := World.block_lt_of_cell? w3 _ c3_1_0; have d3_1 : ¬ (w.heap.size + 1 = w3.heap.size) := (by omega); have e3_1 : ¬ (w3.heap.size = w.heap.size + 1) := (by omega); obtain ⟨c3_2_0, c3_2_1⟩ := K.c2 x3 (w.heap.size + 1 + 1) (.int .i64 0) (.int .i64 0) (by go_simp); obtain ⟨f3_2_0, f3_2_1⟩ := K.f2 x3 (w.heap.size + 1 + 1) (by go_simp); have z3_2 : w.heap.size + 1 + 1 < w3.heap.size := World.block_lt_of_cell? w3 _ c3_2_0; have d3_2 : ¬ (w.heap.size + 1 + 1 = w3.heap.size) := (by omega); have e3_2 : ¬ (w3.heap.size = w.heap.size + 1 + 1) := (by omega); clear c2_0_0 c2_0_1 z2_0 d2_0 e2_0 c2_1_0 c2_1_1 z2_1 d2_1 e2_1 c2_2_0 c2_2_1 f2_2_0 f2_2_1 z2_2 d2_2 e2_2)
      go_wp2_with fail
      refine K.wp_region_y (R := K.RE) 11 [1, 2, 0, 0, 2, 0, 1, 0, 2, 2, 2] [K.SQ.any, K.SQ.is (.agg #[.int .i64 l.1, .int .i64 l.2]), K.SQ.any, K.SQ.any, K.SQ.is (.agg #[.int .i64 sc.1, .int .i64 sc.2]), K.SQ.any, K.SQ.any, K.SQ.any, K.SQ.is (.agg #[.int .i64 r.1, .int .i64 r.2]), K.SQ.new (w3.heap.size) (Nat.zero_le _) (.cells #[.int .i64 0, .int .i64 0] 82), K.SQ.new (w3.heap.size) (Nat.zero_le _) (.cells #[.int .i64 0, .int .i64 0] 82)] (by kernel_rfl) (by kernel_rfl) ?_
      simp only [List.take_succ_cons, List.take_zero, List.drop_succ_cons, List.drop_zero]
      apply K.y_held
      · rfl
      · rfl
      · intro w' hx; have hx : K.Ext _ _ := hx; have hc := hx.all.1.1; have hf := hx.all.1.2; have hc' := hx.all.2.1; have hf' := hx.all.2.2; go_simp; first | done | rfl | exact ⟨rfl, rfl⟩
      simp only [Act.put, List.setIfInBounds_toArray, List.set]
      apply K.y_call_is
      · rfl
      · rfl
      · rfl
      · intro w'; go_simp; first | done | rfl | exact ⟨rfl, rfl⟩
      · intro w' hx hp; have hx : K.Ext _ _ := hx; have hc := hx.all.1.1; have hf := hx.all.1.2; have hc' := hx.all.2.1; have hf' := hx.all.2.2; exact HL.out _
      intro w_1_ hx_1_
      replace hx_1_ : K.Ext _ _ := hx_1_
      simp only [Act.put, List.setIfInBounds_toArray, List.set]
      iterate 2
        apply K.y_pure
        · rfl
        · rfl
        · intro w'; go_simp; first | done | exact K.vint (IntWalk.i64_in _ (by omega)) | rfl | exact ⟨rfl, rfl⟩
        simp only [Act.put, List.setIfInBounds_toArray, List.set]
      apply K.y_call_is
      · rfl
      · rfl
      · rfl
      · intro w'; go_simp; first | done | rfl | exact ⟨rfl, rfl⟩
      · intro w' hx hp; have hx : K.Ext _ _ := hx; have hc := hx.all.1.1; have hf := hx.all.1.2; have hc' := hx.all.2.1; have hf' := hx.all.2.2; exact HS.out _
      intro w_4_ hx_4_
      replace hx_4_ : K.Ext _ _ := hx_4_
      simp only [Act.put, List.setIfInBounds_toArray, List.set]
      apply K.y_pure
      · rfl
      · rfl
      · intro w'; go_simp; first | done | exact K.vint (IntWalk.i64_in _ (by omega)) | rfl | exact ⟨rfl, rfl⟩
      simp only [Act.put, List.setIfInBounds_toArray, List.set]
      apply K.y_held
      · rfl
      · rfl
      · intro w' hx; have hx : K.Ext _ _ := hx; have hc := hx.all.1.1; have hf := hx.all.1.2; have hc' := hx.all.2.1; have hf' := hx.all.2.2; go_simp; first | done | rfl | exact ⟨rfl, rfl⟩
      simp only [Act.put, List.setIfInBounds_toArray, List.set]
      apply K.y_pure
      · rfl
      · rfl
      · intro w'; go_simp; first | done | exact K.vint (IntWalk.i64_in _ (by omega)) | rfl | exact ⟨rfl, rfl⟩
      simp only [Act.put, List.setIfInBounds_toArray, List.set]
      apply K.y_call_is
      · rfl
      · rfl
      · rfl
      · intro w'; go_simp; first | done | rfl | exact ⟨rfl, rfl⟩
      · intro w' hx hp; have hx : K.Ext _ _ := hx; have hc := hx.all.1.1; have hf := hx.all.1.2; have hc' := hx.all.2.1; have hf' := hx.all.2.2; exact HLG.out _
      intro w_8_ hx_8_
      replace hx_8_ : K.Ext _ _ := hx_8_
      simp only [Act.put, List.setIfInBounds_toArray, List.set]
      apply K.y_new (Nat.zero_le _)
      · rfl
      · rfl
      · rfl
      · go_simp; first | done | omega
      · intro w'; go_simp; first | done | rfl | exact ⟨rfl, rfl⟩
      intro g7_9 w_9_ hx_9_ hg7_9 hb_9_ hn_9_
      replace hx_9_ : K.Ext _ _ := hx_9_
      clear hn_9_
      simp only [Act.put, List.setIfInBounds_toArray, List.set]
      apply K.y_new (Nat.zero_le _)
      · rfl
      · rfl
      · rfl
      · go_simp; first | done | omega
      · intro w'; go_simp; first | done | rfl | exact ⟨rfl, rfl⟩
      intro g7_10 w_10_ hx_10_ hg7_10 hb_10_ hn_10_
      replace hx_10_ : K.Ext _ _ := hx_10_
      have ne7_9_10 : ¬ (g7_9 = g7_10) := K.blk_ptr (hn_10_ 9 _ (by decide) rfl rfl rfl)
      have ne7_10_9 : ¬ (g7_10 = g7_9) := fun e => ne7_9_10 e.symm
      clear hn_10_
      simp only [Act.put, List.setIfInBounds_toArray, List.set]
      apply K.y_done
      intro w4 h_x
      replace h_x : K.Ext _ _ := h_x
      have x4 := hx_1_.trans (hx_4_.trans (hx_8_.trans (hx_9_.trans (hx_10_.trans h_x))))
      have hb7_9 := K.Ext.block (hx_10_.trans h_x) hb_9_
      have cg7_9_0 : w4.cell? ⟨g7_9, 0, none⟩ = some (.int .i64 0) := K.cell_at hb7_9 rfl
      have fg7_9_0 : w4.frozen? ⟨g7_9, 0, none⟩ = false := K.thaw_at hb7_9
      have cg7_9_1 : w4.cell? ⟨g7_9, 1, none⟩ = some (.int .i64 0) := K.cell_at hb7_9 rfl
      have fg7_9_1 : w4.frozen? ⟨g7_9, 1, none⟩ = false := K.thaw_at hb7_9
      have hb7_10 := K.Ext.block (h_x) hb_10_
      have cg7_10_0 : w4.cell? ⟨g7_10, 0, none⟩ = some (.int .i64 0) := K.cell_at hb7_10 rfl
      have fg7_10_0 : w4.frozen? ⟨g7_10, 0, none⟩ = false := K.thaw_at hb7_10
      have cg7_10_1 : w4.cell? ⟨g7_10, 1, none⟩ = some (.int .i64 0) := K.cell_at hb7_10 rfl
      have fg7_10_1 : w4.frozen? ⟨g7_10, 1, none⟩ = false := K.thaw_at hb7_10
      clear h_x hx_1_ hx_4_ hx_8_ hx_9_ hx_10_
      obtain ⟨⟨hcw4, hfw4⟩, hc'w4, hf'w4⟩ := x4.all
      have s4 : w3.heap.size ≤ w4.heap.size := (by have h_ := x4.size; (try simp at h_); omega)
      have X4 := K.Ext.trans (K.Ext.drew (X3)) x4
      obtain ⟨c4_0_0, c4_0_1⟩ := K.c2 x4 (w.heap.size) (.int .i64 f.1) (.int .i64 f.2) (by go_simp)
      have z4_0 : w.heap.size < w4.heap.size := World.block_lt_of_cell? w4 _ c4_0_0
      have d4_0 : ¬ (w.heap.size = w4.heap.size) := (by omega)
      have e4_0 : ¬ (w4.heap.size = w.heap.size) := (by omega)
      obtain ⟨c4_1_0, c4_1_1⟩ := K.c2 x4 (w.heap.size + 1) (.int .i64 rd.1) (.int .i64 rd.2) (by go_simp)
      have z4_1 : w.heap.size + 1 < w4.heap.size := World.block_lt_of_cell? w4 _ c4_1_0
      have d4_1 : ¬ (w.heap.size + 1 = w4.heap.size) := (by omega)
      have e4_1 : ¬ (w4.heap.size = w.heap.size + 1) := (by omega)
      obtain ⟨c4_2_0, c4_2_1⟩ := K.c2 x4 (w.heap.size + 1 + 1) (.int .i64 0) (.int .i64 0) (by go_simp)
      obtain ⟨f4_2_0, f4_2_1⟩ := K.f2 x4 (w.heap.size + 1 + 1) (by go_simp)
      have z4_2 : w.heap.size + 1 + 1 < w4.heap.size := World.block_lt_of_cell? w4 _ c4_2_0
      have d4_2 : ¬ (w.heap.size + 1 + 1 = w4.heap.size) := (by omega)
      have e4_2 : ¬ (w4.heap.size = w.heap.size + 1 + 1) := (by omega)
      have nng7_9_0 : ¬ (g7_9 = w.heap.size) := (by omega)
      have nmg7_9_0 : ¬ (w.heap.size = g7_9) := (by omega)
      have nng7_9_1 : ¬ (g7_9 = w.heap.size + 1) := (by omega)
      have nmg7_9_1 : ¬ (w.heap.size + 1 = g7_9) := (by omega)
      have nng7_9_2 : ¬ (g7_9 = w.heap.size + 1 + 1) := (by omega)
      have nmg7_9_2 : ¬ (w.heap.size + 1 + 1 = g7_9) := (by omega)
      have nng7_10_0 : ¬ (g7_10 = w.heap.size) := (by omega)
      have nmg7_10_0 : ¬ (w.heap.size = g7_10) := (by omega)
      have nng7_10_1 : ¬ (g7_10 = w.heap.size + 1) := (by omega)
      have nmg7_10_1 : ¬ (w.heap.size + 1 = g7_10) := (by omega)
      have nng7_10_2 : ¬ (g7_10 = w.heap.size + 1 + 1) := (by omega)
      have nmg7_10_2 : ¬ (w.heap.size + 1 + 1 = g7_10) := (by omega)
      clear c3_0_0 c3_0_1 z3_0 d3_0 e3_0 c3_1_0 c3_1_1 z3_1 d3_1 e3_1 c3_2_0 c3_2_1 f3_2_0 f3_2_1 z3_2 d3_2 e3_2
      go_wp2_with fail
      refine NoPanic.normal ?_
      go_wp2_with (go_at_call 69; refine K.call (by with_reducible rfl) (by with_reducible rfl) (HD.out _) ?_; rintro e w_ ⟨rfl, rfl⟩)
      go_wp2_with (go_at_call 70; refine K.call (by with_reducible rfl) (by with_reducible rfl) (HR.out _) ?_; rintro e w6 ⟨rfl, x6⟩; have s6 : w4.heap.size ≤ w6.heap.size := (by have h_ := x6.size; (try simp at h_); omega); have X6 : K.Ext w w6 := K.Ext.trans (by repeat' (first | with_reducible exact X4 | with_reducible refine K.Ext.setCell ?_ ?_ _ | with_reducible refine K.Ext.alloc ?_ _ | with_reducible refine K.Ext.drew ?_ | (dsimp only; omega) | omega | (simp; omega))) x6; obtain ⟨c6_0_0, c6_0_1⟩ := K.c2 x6 (w.heap.size) (.int .i64 f.1) (.int .i64 f.2) (by go_simp); have z6_0 : w.heap.size < w6.heap.size := World.block_lt_of_cell? w6 _ c6_0_0; have d6_0 : ¬ (w.heap.size = w6.heap.size) := (by omega); have e6_0 : ¬ (w6.heap.size = w.heap.size) := (by omega); obtain ⟨c6_1_0, c6_1_1⟩ := K.c2 x6 (w.heap.size + 1) (.int .i64 rd.1) (.int .i64 rd.2) (by go_simp); have z6_1 : w.heap.size + 1 < w6.heap.size := World.block_lt_of_cell? w6 _ c6_1_0; have d6_1 : ¬ (w.heap.size + 1 = w6.heap.size) := (by omega); have e6_1 : ¬ (w6.heap.size = w.heap.size + 1) := (by omega); obtain ⟨c6_2_0, c6_2_1⟩ := K.c2 x6 (w.heap.size + 1 + 1) (.int .i64 0) (.int .i64 0) (by go_simp); obtain ⟨f6_2_0, f6_2_1⟩ := K.f2 x6 (w.heap.size + 1 + 1) (by go_simp); have z6_2 : w.heap.size + 1 + 1 < w6.heap.size := World.block_lt_of_cell? w6 _ c6_2_0; have d6_2 : ¬ (w.heap.size + 1 + 1 = w6.heap.size) := (by omega); have e6_2 : ¬ (w6.heap.size = w.heap.size + 1 + 1) := (by omega); obtain ⟨c6_3_0, c6_3_1⟩ := K.c2 x6 (g7_9) (.int .i64 sc.1) (.int .i64 sc.2) (by go_simp); obtain ⟨f6_3_0, f6_3_1⟩ := K.f2 x6 (g7_9) (by go_simp); have z6_3 : g7_9 < w6.heap.size := World.block_lt_of_cell? w6 _ c6_3_0; have d6_3 : ¬ (g7_9 = w6.heap.size) := (by omega); have e6_3 : ¬ (w6.heap.size = g7_9) := (by omega); have n3_0 : ¬ (g7_9 = w.heap.size) := (by omega); have n0_3 : ¬ (w.heap.size = g7_9) := (by omega); have n3_1 : ¬ (g7_9 = w.heap.size + 1) := (by omega); have n1_3 : ¬ (w.heap.size + 1 = g7_9) := (by omega); have n3_2 : ¬ (g7_9 = w.heap.size + 1 + 1) := (by omega); have n2_3 : ¬ (w.heap.size + 1 + 1 = g7_9) := (by omega); obtain ⟨c6_4_0, c6_4_1⟩ := K.c2 x6 (g7_10) (.int .i64 r.1) (.int .i64 r.2) (by go_simp); obtain ⟨f6_4_0, f6_4_1⟩ := K.f2 x6 (g7_10) (by go_simp); have z6_4 : g7_10 < w6.heap.size := World.block_lt_of_cell? w6 _ c6_4_0; have d6_4 : ¬ (g7_10 = w6.heap.size) := (by omega); have e6_4 : ¬ (w6.heap.size = g7_10) := (by omega); have n4_0 : ¬ (g7_10 = w.heap.size) := (by omega); have n0_4 : ¬ (w.heap.size = g7_10) := (by omega); have n4_1 : ¬ (g7_10 = w.heap.size + 1) := (by omega); have n1_4 : ¬ (w.heap.size + 1 = g7_10) := (by omega); have n4_2 : ¬ (g7_10 = w.heap.size + 1 + 1) := (by omega); have n2_4 : ¬ (w.heap.size + 1 + 1 = g7_10) := (by omega); have n4_3 : ¬ (g7_10 = g7_9) := (by omega); have n3_4 : ¬ (g7_9 = g7_10) := (by omega); clear c4_0_0 c4_0_1 z4_0 d4_0 e4_0 c4_1_0 c4_1_1 z4_1 d4_1 e4_1 c4_2_0 c4_2_1 f4_2_0 f4_2_1 z4_2 d4_2 e4_2)
      rw [HE.out]
      refine bodyPost_ret (v := .tuple #[.agg #[.int .i64 F.1.1, .int .i64 F.1.2], .int .i64 F.2]) (by unfold results; rw [Tryz.results32]; go_simp) rfl ⟨rfl, ?_⟩
      repeat with_reducible refine K.Ext.setCell ?_ (by dsimp only; omega) _
      exact (by repeat' (first | with_reducible exact X6 | with_reducible refine K.Ext.setCell ?_ ?_ _ | with_reducible refine K.Ext.alloc ?_ _ | with_reducible refine K.Ext.drew ?_ | (dsimp only; omega) | omega | (simp; omega)))
  · have hc' : (c == 0) = false := by simpa using h0
    have HE : Hid (M = ((0, 0), c)) := Z.hide (by
      rw [HM.out, hr, HXE.out]
      rw [HXE.out] at h0
      cases hf : Z.isFig f.1 f.2
      · rfl
      · rw [hf] at h0
        by_cases hab : Z.ordS fr = 0 ∨ Z.ordS to = 0
        · rw [if_neg (by decide), if_pos hab, if_neg (by decide), if_pos hab]
        · rw [if_neg (by decide), if_neg hab] at h0; exact absurd rfl h0)
    clear HM HXE hr
    have X0 : K.Ext w w := K.Ext.refl w
    go_enter Tryz.func32, Tryz.ntmps32
    go_wp2_with (go_at_call 64; refine K.call (by with_reducible rfl) (by with_reducible rfl) (HX.out _) ?_; rintro e w1 ⟨rfl, x1⟩; have s1 : w.heap.size + 3 ≤ w1.heap.size := (by have h_ := x1.size; (try simp at h_); omega); have X1 : K.Ext w w1 := K.Ext.trans (by repeat' (first | with_reducible exact X0 | with_reducible refine K.Ext.setCell ?_ ?_ _ | with_reducible refine K.Ext.alloc ?_ _ | with_reducible refine K.Ext.drew ?_ | (dsimp only; omega) | omega | (simp; omega))) x1; obtain ⟨c1_0_0, c1_0_1⟩ := K.c2 x1 (w.heap.size) (.int .i64 f.1) (.int .i64 f.2) (by go_simp); have z1_0 : w.heap.size < w1.heap.size := World.block_lt_of_cell? w1 _ c1_0_0; have d1_0 : ¬ (w.heap.size = w1.heap.size) := (by omega); have e1_0 : ¬ (w1.heap.size = w.heap.size) := (by omega); obtain ⟨c1_1_0, c1_1_1⟩ := K.c2 x1 (w.heap.size + 1) (.int .i64 rd.1) (.int .i64 rd.2) (by go_simp); have z1_1 : w.heap.size + 1 < w1.heap.size := World.block_lt_of_cell? w1 _ c1_1_0; have d1_1 : ¬ (w.heap.size + 1 = w1.heap.size) := (by omega); have e1_1 : ¬ (w1.heap.size = w.heap.size + 1) := (by omega); have n1_0 : ¬ (w.heap.size + 1 = w.heap.size) := (by omega); have n0_1 : ¬ (w.heap.size = w.heap.size + 1) := (by omega); obtain ⟨c1_2_0, c1_2_1⟩ := K.c2 x1 (w.heap.size + 1 + 1) (.int .i64 0) (.int .i64 0) (by go_simp); obtain ⟨f1_2_0, f1_2_1⟩ := K.f2 x1 (w.heap.size + 1 + 1) (by go_simp); have z1_2 : w.heap.size + 1 + 1 < w1.heap.size := World.block_lt_of_cell? w1 _ c1_2_0; have d1_2 : ¬ (w.heap.size + 1 + 1 = w1.heap.size) := (by omega); have e1_2 : ¬ (w1.heap.size = w.heap.size + 1 + 1) := (by omega); have n2_0 : ¬ (w.heap.size + 1 + 1 = w.heap.size) := (by omega); have n0_2 : ¬ (w.heap.size = w.heap.size + 1 + 1) := (by omega); have n2_1 : ¬ (w.heap.size + 1 + 1 = w.heap.size + 1) := (by omega); have n1_2 : ¬ (w.heap.size + 1 = w.heap.size + 1 + 1) := (by omega))
    go_wp2_with (go_at_call 52; refine K.call (by with_reducible rfl) (by with_reducible rfl) (HG _) ?_; rintro e w2 ⟨rfl, x2⟩; have s2 : w1.heap.size ≤ w2.heap.size := (by have h_ := x2.size; (try simp at h_); omega); have X2 := K.Ext.trans (X1) x2; obtain ⟨c2_0_0, c2_0_1⟩ := K.c2 x2 (w.heap.size) (.int .i64 f.1) (.int .i64 f.2) (by go_simp); have z2_0 : w.heap.size < w2.heap.size := World.block_lt_of_cell? w2 _ c2_0_0; have d2_0 : ¬ (w.heap.size = w2.heap.size) := (by omega); have e2_0 : ¬ (w2.heap.size = w.heap.size) := (by omega); obtain ⟨c2_1_0, c2_1_1⟩ := K.c2 x2 (w.heap.size + 1) (.int .i64 rd.1) (.int .i64 rd.2) (by go_simp); have z2_1 : w.heap.size + 1 < w2.heap.size := World.block_lt_of_cell? w2 _ c2_1_0; have d2_1 : ¬ (w.heap.size + 1 = w2.heap.size) := (by omega); have e2_1 : ¬ (w2.heap.size = w.heap.size + 1) := (by omega); obtain ⟨c2_2_0, c2_2_1⟩ := K.c2 x2 (w.heap.size + 1 + 1) (.int .i64 0) (.int .i64 0) (by go_simp); obtain ⟨f2_2_0, f2_2_1⟩ := K.f2 x2 (w.heap.size + 1 + 1) (by go_simp); have z2_2 : w.heap.size + 1 + 1 < w2.heap.size := World.block_lt_of_cell? w2 _ c2_2_0; have d2_2 : ¬ (w.heap.size + 1 + 1 = w2.heap.size) := (by omega); have e2_2 : ¬ (w2.heap.size = w.heap.size + 1 + 1) := (by omega); clear c1_0_0 c1_0_1 z1_0 d1_0 e1_0 c1_1_0 c1_1_1 z1_1 d1_1 e1_1 c1_2_0 c1_2_1 f1_2_0 f1_2_1 z1_2 d1_2 e1_2)
    rw [HE.out]
    refine bodyPost_ret (v := .tuple #[.agg #[.int .i64 0, .int .i64 0], .int .i64 c]) (by unfold results; rw [Tryz.results32]; go_simp) rfl ⟨rfl, ?_⟩
    repeat with_reducible refine K.Ext.setCell ?_ (by dsimp only; omega) _
    exact (by repeat' (first | with_reducible exact X2 | with_reducible refine K.Ext.setCell ?_ ?_ _ | with_reducible refine K.Ext.alloc ?_ _ | with_reducible refine K.Ext.drew ?_ | (dsimp only; omega) | omega | (simp; omega)))
end Go.Proofs.YtimpcelbekhipaaGreat
end
section
namespace Go.Proofs.YtimpcelbekhipaaGreat
open Go.RowKit
theorem impl_placedT (R : Z.Rl) (fr : Int) (to : Int) (f : Int × Int) {loRL hiRL loRR hiRR : Nat} {pRL pRR : Value} (w : World)  (hmRL : R.st.length ≤ 1048576) (hRL : K.ints w loRL hiRL pRL R.st) (hcRL : K.roomy pRL R.st.length) (hmRR : R.sl.length ≤ 1048576) (hRR : K.ints w loRR hiRR pRR R.sl) (hcRR : K.roomy pRR R.sl.length) :
    Calls Tryz.prog 40 #[.agg #[.int .i64 R.ln, pRL, pRR], .int .i64 fr, .int .i64 to, .agg #[.int .i64 f.1, .int .i64 f.2]] w fun e w' => e = .returned (.tuple #[.agg #[.int .i64 ((Z.cuO R fr to f).1).1, .int .i64 ((Z.cuO R fr to f).1).2], .int .i64 ((Z.cuO R fr to f).2)]) ∧ K.Ext w w' := by
  have hRL_ := hRL
  have shRL := hRL
  obtain ⟨oRL, cRL, rfl, _⟩ := shRL
  have hRR_ := hRR
  have shRR := hRR
  obtain ⟨oRR, cRR, rfl, _⟩ := shRR
  obtain ⟨M, hM⟩ : ∃ M, Z.cuO R fr to f = M := ⟨_, rfl⟩
  have HM : Hid (M = if (Z.trO R fr to f).2 = 0 then Z.plO fr to f (Z.trO R fr to f).1 else ((0, 0), (Z.trO R fr to f).2)) := Z.hide (by rw [← hM]; rfl)
  rw [hM]
  clear hM
  have HT : Hid (∀ (W : World), K.ints W loRL hiRL (.slice oRL R.st.length cRL) R.st → K.ints W loRR hiRR (.slice oRR R.sl.length cRR) R.sl → Calls Tryz.prog 22 #[.agg #[.int .i64 R.ln, .slice oRL R.st.length cRL, .slice oRR R.sl.length cRR], .int .i64 fr, .int .i64 to, .agg #[.int .i64 f.1, .int .i64 f.2]] W fun e w'' => e = .returned (.tuple #[.agg #[.int .i64 (Z.trO R fr to f).1.1, .int .i64 (Z.trO R fr to f).1.2], .int .i64 (Z.trO R fr to f).2]) ∧ K.Ext W w'') := Z.hide (fun W k1 k2 => impl_TransferFigure R fr to f W hmRL k1 hcRL hmRR k2 hcRR)
  have HP := Z.hide (fun w => impl_PlaceTransfer fr to f (Z.trO R fr to f).1 w)
  generalize Z.trO R fr to f = T at *
  obtain ⟨rd, c⟩ := T
  dsimp only at HM HT HP
  by_cases h0 : c = 0
  · rw [if_pos h0] at HM
    subst h0
    generalize Z.plO fr to f rd = F at *
    have X0 : K.Ext w w := K.Ext.refl w
    go_enter Tryz.func40, Tryz.ntmps40
    go_wp2_with (go_at_call 22; refine K.call (by with_reducible rfl) (by with_reducible rfl) (HT.out _ (K.ints.alloc (K.ints.alloc (K.ints.alloc hRL_ _) _) _) (K.ints.alloc (K.ints.alloc (K.ints.alloc hRR_ _) _) _)) ?_; rintro e w1 ⟨rfl, x1⟩; have s1 : w.heap.size + 3 ≤ w1.heap.size := (by have h_ := x1.size; (try simp at h_); omega); have X1 := K.Ext.trans (K.Ext.alloc (K.Ext.alloc (K.Ext.alloc X0 _) _) _) x1; obtain ⟨c1_0_0, c1_0_1, c1_0_2⟩ := K.c3 x1 (w.heap.size) (.int .i64 R.ln) (.slice oRL R.st.length cRL) (.slice oRR R.sl.length cRR) (by go_simp); have z1_0 : w.heap.size < w1.heap.size := World.block_lt_of_cell? w1 _ c1_0_0; have d1_0 : ¬ (w.heap.size = w1.heap.size) := (by omega); have e1_0 : ¬ (w1.heap.size = w.heap.size) := (by omega); obtain ⟨c1_1_0, c1_1_1⟩ := K.c2 x1 (w.heap.size + 1) (.int .i64 f.1) (.int .i64 f.2) (by go_simp); have z1_1 : w.heap.size + 1 < w1.heap.size := World.block_lt_of_cell? w1 _ c1_1_0; have d1_1 : ¬ (w.heap.size + 1 = w1.heap.size) := (by omega); have e1_1 : ¬ (w1.heap.size = w.heap.size + 1) := (by omega); have n1_0 : ¬ (w.heap.size + 1 = w.heap.size) := (by omega); have n0_1 : ¬ (w.heap.size = w.heap.size + 1) := (by omega); obtain ⟨c1_2_0, c1_2_1⟩ := K.c2 x1 (w.heap.size + 1 + 1) (.int .i64 0) (.int .i64 0) (by go_simp); obtain ⟨f1_2_0, f1_2_1⟩ := K.f2 x1 (w.heap.size + 1 + 1) (by go_simp); have z1_2 : w.heap.size + 1 + 1 < w1.heap.size := World.block_lt_of_cell? w1 _ c1_2_0; have d1_2 : ¬ (w.heap.size + 1 + 1 = w1.heap.size) := (by omega); have e1_2 : ¬ (w1.heap.size = w.heap.size + 1 + 1) := (by omega); have n2_0 : ¬ (w.heap.size + 1 + 1 = w.heap.size) := (by omega); have n0_2 : ¬ (w.heap.size = w.heap.size + 1 + 1) := (by omega); have n2_1 : ¬ (w.heap.size + 1 + 1 = w.heap.size + 1) := (by omega); have n1_2 : ¬ (w.heap.size + 1 = w.heap.size + 1 + 1) := (by omega); have F1_1 := K.ints.ext (K.ints.alloc (K.ints.alloc (K.ints.alloc hRL_ _) _) _) x1; have F2_1 := K.ints.ext (K.ints.alloc (K.ints.alloc (K.ints.alloc hRR_ _) _) _) x1; clear hRL_ hRR_)
    go_wp2_with (go_at_call 31; refine K.call (by with_reducible rfl) (by with_reducible rfl) (HP.out _) ?_; rintro e w2 ⟨rfl, x2⟩; have s2 : w1.heap.size + 1 ≤ w2.heap.size := (by have h_ := x2.size; (try simp at h_); omega); have X2 := K.Ext.trans (K.Ext.alloc X1 _) x2; obtain ⟨c2_0_0, c2_0_1, c2_0_2⟩ := K.c3 x2 (w.heap.size) (.int .i64 R.ln) (.slice oRL R.st.length cRL) (.slice oRR R.sl.length cRR) (by go_simp); have z2_0 : w.heap.size < w2.heap.size := World.block_lt_of_cell? w2 _ c2_0_0; have d2_0 : ¬ (w.heap.size = w2.heap.size) := (by omega); have e2_0 : ¬ (w2.heap.size = w.heap.size) := (by omega); obtain ⟨c2_1_0, c2_1_1⟩ := K.c2 x2 (w.heap.size + 1) (.int .i64 f.1) (.int .i64 f.2) (by go_simp); have z2_1 : w.heap.size + 1 < w2.heap.size := World.block_lt_of_cell? w2 _ c2_1_0; have d2_1 : ¬ (w.heap.size + 1 = w2.heap.size) := (by omega); have e2_1 : ¬ (w2.heap.size = w.heap.size + 1) := (by omega); obtain ⟨c2_2_0, c2_2_1⟩ := K.c2 x2 (w.heap.size + 1 + 1) (.int .i64 0) (.int .i64 0) (by go_simp); obtain ⟨f2_2_0, f2_2_1⟩ := K.f2 x2 (w.heap.size + 1 + 1) (by go_simp); have z2_2 : w.heap.size + 1 + 1 < w2.heap.size := World.block_lt_of_cell? w2 _ c2_2_0; have d2_2 : ¬ (w.heap.size + 1 + 1 = w2.heap.size) := (by omega); have e2_2 : ¬ (w2.heap.size = w.heap.size + 1 + 1) := (by omega); obtain ⟨c2_3_0, c2_3_1⟩ := K.c2 x2 (w1.heap.size) (.int .i64 ((rd, (0 : Int)).1).1) (.int .i64 ((rd, (0 : Int)).1).2) (by go_simp); obtain ⟨f2_3_0, f2_3_1⟩ := K.f2 x2 (w1.heap.size) (by go_simp); have z2_3 : w1.heap.size < w2.heap.size := World.block_lt_of_cell? w2 _ c2_3_0; have d2_3 : ¬ (w1.heap.size = w2.heap.size) := (by omega); have e2_3 : ¬ (w2.heap.size = w1.heap.size) := (by omega); have n3_0 : ¬ (w1.heap.size = w.heap.size) := (by omega); have n0_3 : ¬ (w.heap.size = w1.heap.size) := (by omega); have n3_1 : ¬ (w1.heap.size = w.heap.size + 1) := (by omega); have n1_3 : ¬ (w.heap.size + 1 = w1.heap.size) := (by omega); have n3_2 : ¬ (w1.heap.size = w.heap.size + 1 + 1) := (by omega); have n2_3 : ¬ (w.heap.size + 1 + 1 = w1.heap.size) := (by omega); have F1_2 := K.ints.ext (K.ints.alloc F1_1 _) x2; have F2_2 := K.ints.ext (K.ints.alloc F2_1 _) x2; clear c1_0_0 c1_0_1 c1_0_2 z1_0 d1_0 e1_0 c1_1_0 c1_1_1 z1_1 d1_1 e1_1 c1_2_0 c1_2_1 f1_2_0 f1_2_1 z1_2 d1_2 e1_2 F1_1 F2_1)
    rw [HM.out]
    refine bodyPost_ret (v := .tuple #[.agg #[.int .i64 F.1.1, .int .i64 F.1.2], .int .i64 F.2]) (by unfold results; rw [Tryz.results40]; go_simp) rfl ⟨rfl, ?_⟩
    repeat with_reducible refine K.Ext.setCell ?_ (by dsimp only; omega) _
    exact (by repeat' (first | with_reducible exact X2 | with_reducible refine K.Ext.setCell ?_ ?_ _ | with_reducible refine K.Ext.alloc ?_ _ | with_reducible refine K.Ext.drew ?_ | (dsimp only; omega) | omega | (simp; omega)))
  · rw [if_neg h0] at HM
    have hc' : (c == 0) = false := by simpa using h0
    have X0 : K.Ext w w := K.Ext.refl w
    go_enter Tryz.func40, Tryz.ntmps40
    go_wp2_with (go_at_call 22; refine K.call (by with_reducible rfl) (by with_reducible rfl) (HT.out _ (show K.ints _ (loRL) (hiRL) (.slice oRL R.st.length cRL) (R.st) from by repeat' (first | with_reducible exact hRL_ | with_reducible refine K.ints.set ?_ _ ?_ _ | with_reducible refine K.ints.alloc ?_ _ | with_reducible refine K.ints.drew ?_ | (dsimp only; omega) | omega | (simp; done) | (simp; omega))) (show K.ints _ (loRR) (hiRR) (.slice oRR R.sl.length cRR) (R.sl) from by repeat' (first | with_reducible exact hRR_ | with_reducible refine K.ints.set ?_ _ ?_ _ | with_reducible refine K.ints.alloc ?_ _ | with_reducible refine K.ints.drew ?_ | (dsimp only; omega) | omega | (simp; done) | (simp; omega)))) ?_; rintro e w1 ⟨rfl, x1⟩; have s1 : w.heap.size + 3 ≤ w1.heap.size := (by have h_ := x1.size; (try simp at h_); omega); have X1 : K.Ext w w1 := K.Ext.trans (by repeat' (first | with_reducible exact X0 | with_reducible refine K.Ext.setCell ?_ ?_ _ | with_reducible refine K.Ext.alloc ?_ _ | with_reducible refine K.Ext.drew ?_ | (dsimp only; omega) | omega | (simp; omega))) x1; obtain ⟨c1_0_0, c1_0_1, c1_0_2⟩ := K.c3 x1 (w.heap.size) (.int .i64 R.ln) (.slice oRL R.st.length cRL) (.slice oRR R.sl.length cRR) (by go_simp); have z1_0 : w.heap.size < w1.heap.size := World.block_lt_of_cell? w1 _ c1_0_0; have d1_0 : ¬ (w.heap.size = w1.heap.size) := (by omega); have e1_0 : ¬ (w1.heap.size = w.heap.size) := (by omega); obtain ⟨c1_1_0, c1_1_1⟩ := K.c2 x1 (w.heap.size + 1) (.int .i64 f.1) (.int .i64 f.2) (by go_simp); have z1_1 : w.heap.size + 1 < w1.heap.size := World.block_lt_of_cell? w1 _ c1_1_0; have d1_1 : ¬ (w.heap.size + 1 = w1.heap.size) := (by omega); have e1_1 : ¬ (w1.heap.size = w.heap.size + 1) := (by omega); have n1_0 : ¬ (w.heap.size + 1 = w.heap.size) := (by omega); have n0_1 : ¬ (w.heap.size = w.heap.size + 1) := (by omega); obtain ⟨c1_2_0, c1_2_1⟩ := K.c2 x1 (w.heap.size + 1 + 1) (.int .i64 0) (.int .i64 0) (by go_simp); obtain ⟨f1_2_0, f1_2_1⟩ := K.f2 x1 (w.heap.size + 1 + 1) (by go_simp); have z1_2 : w.heap.size + 1 + 1 < w1.heap.size := World.block_lt_of_cell? w1 _ c1_2_0; have d1_2 : ¬ (w.heap.size + 1 + 1 = w1.heap.size) := (by omega); have e1_2 : ¬ (w1.heap.size = w.heap.size + 1 + 1) := (by omega); have n2_0 : ¬ (w.heap.size + 1 + 1 = w.heap.size) := (by omega); have n0_2 : ¬ (w.heap.size = w.heap.size + 1 + 1) := (by omega); have n2_1 : ¬ (w.heap.size + 1 + 1 = w.heap.size + 1) := (by omega); have n1_2 : ¬ (w.heap.size + 1 = w.heap.size + 1 + 1) := (by omega); have F1_1 := K.ints.ext (show K.ints _ (loRL) (hiRL) (.slice oRL R.st.length cRL) (R.st) from by repeat' (first | with_reducible exact hRL_ | with_reducible refine K.ints.set ?_ _ ?_ _ | with_reducible refine K.ints.alloc ?_ _ | with_reducible refine K.ints.drew ?_ | (dsimp only; omega) | omega | (simp; done) | (simp; omega))) x1; have F2_1 := K.ints.ext (show K.ints _ (loRR) (hiRR) (.slice oRR R.sl.length cRR) (R.sl) from by repeat' (first | with_reducible exact hRR_ | with_reducible refine K.ints.set ?_ _ ?_ _ | with_reducible refine K.ints.alloc ?_ _ | with_reducible refine K.ints.drew ?_ | (dsimp only; omega) | omega | (simp; done) | (simp; omega))) x1; clear hRL_ hRR_)
    rw [HM.out]
    refine bodyPost_ret (v := .tuple #[.agg #[.int .i64 0, .int .i64 0], .int .i64 ((rd, c).2)]) (by unfold results; rw [Tryz.results40]; go_simp) rfl ⟨rfl, ?_⟩
    repeat with_reducible refine K.Ext.setCell ?_ (by dsimp only; omega) _
    exact (by repeat' (first | with_reducible exact X1 | with_reducible refine K.Ext.setCell ?_ ?_ _ | with_reducible refine K.Ext.alloc ?_ _ | with_reducible refine K.Ext.drew ?_ | (dsimp only; omega) | omega | (simp; omega)))
theorem spec_placedT (R : Z.Rl) (fr : Int) (to : Int) (f : Int × Int) {loRL hiRL loRR hiRR : Nat} {pRL pRR : Value} (w : World)  (hmRL : R.st.length ≤ 1048576) (hRL : K.ints w loRL hiRL pRL R.st) (hcRL : K.roomy pRL R.st.length) (hmRR : R.sl.length ≤ 1048576) (hRR : K.ints w loRR hiRR pRR R.sl) (hcRR : K.roomy pRR R.sl.length) :
    Calls Tryz.prog 37 #[.agg #[.int .i64 R.ln, pRL, pRR], .int .i64 fr, .int .i64 to, .agg #[.int .i64 f.1, .int .i64 f.2]] w fun e w' => e = .returned (.tuple #[.agg #[.int .i64 ((Z.cuO R fr to f).1).1, .int .i64 ((Z.cuO R fr to f).1).2], .int .i64 ((Z.cuO R fr to f).2)]) ∧ K.Ext w w' := by
  have hRL_ := hRL
  have shRL := hRL
  obtain ⟨oRL, cRL, rfl, _⟩ := shRL
  have hRR_ := hRR
  have shRR := hRR
  obtain ⟨oRR, cRR, rfl, _⟩ := shRR
  obtain ⟨M, hM⟩ : ∃ M, Z.cuO R fr to f = M := ⟨_, rfl⟩
  have HM : Hid (M = if (Z.trO R fr to f).2 = 0 then Z.plO fr to f (Z.trO R fr to f).1 else ((0, 0), (Z.trO R fr to f).2)) := Z.hide (by rw [← hM]; rfl)
  rw [hM]
  clear hM
  have HT : Hid (∀ (W : World), K.ints W loRL hiRL (.slice oRL R.st.length cRL) R.st → K.ints W loRR hiRR (.slice oRR R.sl.length cRR) R.sl → Calls Tryz.prog 26 #[.agg #[.int .i64 R.ln, .slice oRL R.st.length cRL, .slice oRR R.sl.length cRR], .int .i64 fr, .int .i64 to, .agg #[.int .i64 f.1, .int .i64 f.2]] W fun e w'' => e = .returned (.tuple #[.agg #[.int .i64 (Z.trO R fr to f).1.1, .int .i64 (Z.trO R fr to f).1.2], .int .i64 (Z.trO R fr to f).2]) ∧ K.Ext W w'') := Z.hide (fun W k1 k2 => spec_TransferFigure R fr to f W hmRL k1 hcRL hmRR k2 hcRR)
  have HP := Z.hide (fun w => spec_PlaceTransfer fr to f (Z.trO R fr to f).1 w)
  generalize Z.trO R fr to f = T at *
  obtain ⟨rd, c⟩ := T
  dsimp only at HM HT HP
  by_cases h0 : c = 0
  · rw [if_pos h0] at HM
    subst h0
    generalize Z.plO fr to f rd = F at *
    have X0 : K.Ext w w := K.Ext.refl w
    go_enter Tryz.func37, Tryz.ntmps37
    go_wp2_with (go_at_call 26; refine K.call (by with_reducible rfl) (by with_reducible rfl) (HT.out _ (K.ints.alloc (K.ints.alloc (K.ints.alloc hRL_ _) _) _) (K.ints.alloc (K.ints.alloc (K.ints.alloc hRR_ _) _) _)) ?_; rintro e w1 ⟨rfl, x1⟩; have s1 : w.heap.size + 3 ≤ w1.heap.size := (by have h_ := x1.size; (try simp at h_); omega); have X1 := K.Ext.trans (K.Ext.alloc (K.Ext.alloc (K.Ext.alloc X0 _) _) _) x1; obtain ⟨c1_0_0, c1_0_1, c1_0_2⟩ := K.c3 x1 (w.heap.size) (.int .i64 R.ln) (.slice oRL R.st.length cRL) (.slice oRR R.sl.length cRR) (by go_simp); have z1_0 : w.heap.size < w1.heap.size := World.block_lt_of_cell? w1 _ c1_0_0; have d1_0 : ¬ (w.heap.size = w1.heap.size) := (by omega); have e1_0 : ¬ (w1.heap.size = w.heap.size) := (by omega); obtain ⟨c1_1_0, c1_1_1⟩ := K.c2 x1 (w.heap.size + 1) (.int .i64 f.1) (.int .i64 f.2) (by go_simp); have z1_1 : w.heap.size + 1 < w1.heap.size := World.block_lt_of_cell? w1 _ c1_1_0; have d1_1 : ¬ (w.heap.size + 1 = w1.heap.size) := (by omega); have e1_1 : ¬ (w1.heap.size = w.heap.size + 1) := (by omega); have n1_0 : ¬ (w.heap.size + 1 = w.heap.size) := (by omega); have n0_1 : ¬ (w.heap.size = w.heap.size + 1) := (by omega); obtain ⟨c1_2_0, c1_2_1⟩ := K.c2 x1 (w.heap.size + 1 + 1) (.int .i64 0) (.int .i64 0) (by go_simp); obtain ⟨f1_2_0, f1_2_1⟩ := K.f2 x1 (w.heap.size + 1 + 1) (by go_simp); have z1_2 : w.heap.size + 1 + 1 < w1.heap.size := World.block_lt_of_cell? w1 _ c1_2_0; have d1_2 : ¬ (w.heap.size + 1 + 1 = w1.heap.size) := (by omega); have e1_2 : ¬ (w1.heap.size = w.heap.size + 1 + 1) := (by omega); have n2_0 : ¬ (w.heap.size + 1 + 1 = w.heap.size) := (by omega); have n0_2 : ¬ (w.heap.size = w.heap.size + 1 + 1) := (by omega); have n2_1 : ¬ (w.heap.size + 1 + 1 = w.heap.size + 1) := (by omega); have n1_2 : ¬ (w.heap.size + 1 = w.heap.size + 1 + 1) := (by omega); have F1_1 := K.ints.ext (K.ints.alloc (K.ints.alloc (K.ints.alloc hRL_ _) _) _) x1; have F2_1 := K.ints.ext (K.ints.alloc (K.ints.alloc (K.ints.alloc hRR_ _) _) _) x1; clear hRL_ hRR_)
    go_wp2_with (go_at_call 32; refine K.call (by with_reducible rfl) (by with_reducible rfl) (HP.out _) ?_; rintro e w2 ⟨rfl, x2⟩; have s2 : w1.heap.size + 1 ≤ w2.heap.size := (by have h_ := x2.size; (try simp at h_); omega); have X2 := K.Ext.trans (K.Ext.alloc X1 _) x2; obtain ⟨c2_0_0, c2_0_1, c2_0_2⟩ := K.c3 x2 (w.heap.size) (.int .i64 R.ln) (.slice oRL R.st.length cRL) (.slice oRR R.sl.length cRR) (by go_simp); have z2_0 : w.heap.size < w2.heap.size := World.block_lt_of_cell? w2 _ c2_0_0; have d2_0 : ¬ (w.heap.size = w2.heap.size) := (by omega); have e2_0 : ¬ (w2.heap.size = w.heap.size) := (by omega); obtain ⟨c2_1_0, c2_1_1⟩ := K.c2 x2 (w.heap.size + 1) (.int .i64 f.1) (.int .i64 f.2) (by go_simp); have z2_1 : w.heap.size + 1 < w2.heap.size := World.block_lt_of_cell? w2 _ c2_1_0; have d2_1 : ¬ (w.heap.size + 1 = w2.heap.size) := (by omega); have e2_1 : ¬ (w2.heap.size = w.heap.size + 1) := (by omega); obtain ⟨c2_2_0, c2_2_1⟩ := K.c2 x2 (w.heap.size + 1 + 1) (.int .i64 0) (.int .i64 0) (by go_simp); obtain ⟨f2_2_0, f2_2_1⟩ := K.f2 x2 (w.heap.size + 1 + 1) (by go_simp); have z2_2 : w.heap.size + 1 + 1 < w2.heap.size := World.block_lt_of_cell? w2 _ c2_2_0; have d2_2 : ¬ (w.heap.size + 1 + 1 = w2.heap.size) := (by omega); have e2_2 : ¬ (w2.heap.size = w.heap.size + 1 + 1) := (by omega); obtain ⟨c2_3_0, c2_3_1⟩ := K.c2 x2 (w1.heap.size) (.int .i64 ((rd, (0 : Int)).1).1) (.int .i64 ((rd, (0 : Int)).1).2) (by go_simp); obtain ⟨f2_3_0, f2_3_1⟩ := K.f2 x2 (w1.heap.size) (by go_simp); have z2_3 : w1.heap.size < w2.heap.size := World.block_lt_of_cell? w2 _ c2_3_0; have d2_3 : ¬ (w1.heap.size = w2.heap.size) := (by omega); have e2_3 : ¬ (w2.heap.size = w1.heap.size) := (by omega); have n3_0 : ¬ (w1.heap.size = w.heap.size) := (by omega); have n0_3 : ¬ (w.heap.size = w1.heap.size) := (by omega); have n3_1 : ¬ (w1.heap.size = w.heap.size + 1) := (by omega); have n1_3 : ¬ (w.heap.size + 1 = w1.heap.size) := (by omega); have n3_2 : ¬ (w1.heap.size = w.heap.size + 1 + 1) := (by omega); have n2_3 : ¬ (w.heap.size + 1 + 1 = w1.heap.size) := (by omega); have F1_2 := K.ints.ext (K.ints.alloc F1_1 _) x2; have F2_2 := K.ints.ext (K.ints.alloc F2_1 _) x2; clear c1_0_0 c1_0_1 c1_0_2 z1_0 d1_0 e1_0 c1_1_0 c1_1_1 z1_1 d1_1 e1_1 c1_2_0 c1_2_1 f1_2_0 f1_2_1 z1_2 d1_2 e1_2 F1_1 F2_1)
    rw [HM.out]
    refine bodyPost_ret (v := .tuple #[.agg #[.int .i64 F.1.1, .int .i64 F.1.2], .int .i64 F.2]) (by unfold results; rw [Tryz.results37]; go_simp) rfl ⟨rfl, ?_⟩
    repeat with_reducible refine K.Ext.setCell ?_ (by dsimp only; omega) _
    exact (by repeat' (first | with_reducible exact X2 | with_reducible refine K.Ext.setCell ?_ ?_ _ | with_reducible refine K.Ext.alloc ?_ _ | with_reducible refine K.Ext.drew ?_ | (dsimp only; omega) | omega | (simp; omega)))
  · rw [if_neg h0] at HM
    have hc' : (c == 0) = false := by simpa using h0
    have X0 : K.Ext w w := K.Ext.refl w
    go_enter Tryz.func37, Tryz.ntmps37
    go_wp2_with (go_at_call 26; refine K.call (by with_reducible rfl) (by with_reducible rfl) (HT.out _ (show K.ints _ (loRL) (hiRL) (.slice oRL R.st.length cRL) (R.st) from by repeat' (first | with_reducible exact hRL_ | with_reducible refine K.ints.set ?_ _ ?_ _ | with_reducible refine K.ints.alloc ?_ _ | with_reducible refine K.ints.drew ?_ | (dsimp only; omega) | omega | (simp; done) | (simp; omega))) (show K.ints _ (loRR) (hiRR) (.slice oRR R.sl.length cRR) (R.sl) from by repeat' (first | with_reducible exact hRR_ | with_reducible refine K.ints.set ?_ _ ?_ _ | with_reducible refine K.ints.alloc ?_ _ | with_reducible refine K.ints.drew ?_ | (dsimp only; omega) | omega | (simp; done) | (simp; omega)))) ?_; rintro e w1 ⟨rfl, x1⟩; have s1 : w.heap.size + 3 ≤ w1.heap.size := (by have h_ := x1.size; (try simp at h_); omega); have X1 : K.Ext w w1 := K.Ext.trans (by repeat' (first | with_reducible exact X0 | with_reducible refine K.Ext.setCell ?_ ?_ _ | with_reducible refine K.Ext.alloc ?_ _ | with_reducible refine K.Ext.drew ?_ | (dsimp only; omega) | omega | (simp; omega))) x1; obtain ⟨c1_0_0, c1_0_1, c1_0_2⟩ := K.c3 x1 (w.heap.size) (.int .i64 R.ln) (.slice oRL R.st.length cRL) (.slice oRR R.sl.length cRR) (by go_simp); have z1_0 : w.heap.size < w1.heap.size := World.block_lt_of_cell? w1 _ c1_0_0; have d1_0 : ¬ (w.heap.size = w1.heap.size) := (by omega); have e1_0 : ¬ (w1.heap.size = w.heap.size) := (by omega); obtain ⟨c1_1_0, c1_1_1⟩ := K.c2 x1 (w.heap.size + 1) (.int .i64 f.1) (.int .i64 f.2) (by go_simp); have z1_1 : w.heap.size + 1 < w1.heap.size := World.block_lt_of_cell? w1 _ c1_1_0; have d1_1 : ¬ (w.heap.size + 1 = w1.heap.size) := (by omega); have e1_1 : ¬ (w1.heap.size = w.heap.size + 1) := (by omega); have n1_0 : ¬ (w.heap.size + 1 = w.heap.size) := (by omega); have n0_1 : ¬ (w.heap.size = w.heap.size + 1) := (by omega); obtain ⟨c1_2_0, c1_2_1⟩ := K.c2 x1 (w.heap.size + 1 + 1) (.int .i64 0) (.int .i64 0) (by go_simp); obtain ⟨f1_2_0, f1_2_1⟩ := K.f2 x1 (w.heap.size + 1 + 1) (by go_simp); have z1_2 : w.heap.size + 1 + 1 < w1.heap.size := World.block_lt_of_cell? w1 _ c1_2_0; have d1_2 : ¬ (w.heap.size + 1 + 1 = w1.heap.size) := (by omega); have e1_2 : ¬ (w1.heap.size = w.heap.size + 1 + 1) := (by omega); have n2_0 : ¬ (w.heap.size + 1 + 1 = w.heap.size) := (by omega); have n0_2 : ¬ (w.heap.size = w.heap.size + 1 + 1) := (by omega); have n2_1 : ¬ (w.heap.size + 1 + 1 = w.heap.size + 1) := (by omega); have n1_2 : ¬ (w.heap.size + 1 = w.heap.size + 1 + 1) := (by omega); have F1_1 := K.ints.ext (show K.ints _ (loRL) (hiRL) (.slice oRL R.st.length cRL) (R.st) from by repeat' (first | with_reducible exact hRL_ | with_reducible refine K.ints.set ?_ _ ?_ _ | with_reducible refine K.ints.alloc ?_ _ | with_reducible refine K.ints.drew ?_ | (dsimp only; omega) | omega | (simp; done) | (simp; omega))) x1; have F2_1 := K.ints.ext (show K.ints _ (loRR) (hiRR) (.slice oRR R.sl.length cRR) (R.sl) from by repeat' (first | with_reducible exact hRR_ | with_reducible refine K.ints.set ?_ _ ?_ _ | with_reducible refine K.ints.alloc ?_ _ | with_reducible refine K.ints.drew ?_ | (dsimp only; omega) | omega | (simp; done) | (simp; omega))) x1; clear hRL_ hRR_)
    rw [HM.out]
    refine bodyPost_ret (v := .tuple #[.agg #[.int .i64 0, .int .i64 0], .int .i64 ((rd, c).2)]) (by unfold results; rw [Tryz.results37]; go_simp) rfl ⟨rfl, ?_⟩
    repeat with_reducible refine K.Ext.setCell ?_ (by dsimp only; omega) _
    exact (by repeat' (first | with_reducible exact X1 | with_reducible refine K.Ext.setCell ?_ ?_ _ | with_reducible refine K.Ext.alloc ?_ _ | with_reducible refine K.Ext.drew ?_ | (dsimp only; omega) | omega | (simp; omega)))
theorem impl_CubeOf (R : Z.Rl) (f : Int × Int) {loRL hiRL loRR hiRR : Nat} {pRL pRR : Value} (w : World)  (hmRL : R.st.length ≤ 1048576) (hRL : K.ints w loRL hiRL pRL R.st) (hcRL : K.roomy pRL R.st.length) (hmRR : R.sl.length ≤ 1048576) (hRR : K.ints w loRR hiRR pRR R.sl) (hcRR : K.roomy pRR R.sl.length) :
    Calls Tryz.prog 16 #[.agg #[.int .i64 R.ln, pRL, pRR], .agg #[.int .i64 f.1, .int .i64 f.2]] w fun e w' => e = .returned (.tuple #[.agg #[.int .i64 ((Z.cuO R 0 2 f).1).1, .int .i64 ((Z.cuO R 0 2 f).1).2], .int .i64 ((Z.cuO R 0 2 f).2)]) ∧ K.Ext w w' := by
  have hRL_ := hRL
  have shRL := hRL
  obtain ⟨oRL, cRL, rfl, _⟩ := shRL
  have hRR_ := hRR
  have shRR := hRR
  obtain ⟨oRR, cRR, rfl, _⟩ := shRR
  have HT : Hid (∀ (W : World), K.ints W loRL hiRL (.slice oRL R.st.length cRL) R.st → K.ints W loRR hiRR (.slice oRR R.sl.length cRR) R.sl → Calls Tryz.prog 40 #[.agg #[.int .i64 R.ln, .slice oRL R.st.length cRL, .slice oRR R.sl.length cRR], .int .i64 0, .int .i64 2, .agg #[.int .i64 f.1, .int .i64 f.2]] W fun e w'' => e = .returned (.tuple #[.agg #[.int .i64 (Z.cuO R 0 2 f).1.1, .int .i64 (Z.cuO R 0 2 f).1.2], .int .i64 (Z.cuO R 0 2 f).2]) ∧ K.Ext W w'') := Z.hide (fun W k1 k2 => impl_placedT R 0 2 f W hmRL k1 hcRL hmRR k2 hcRR)
  generalize Z.cuO R 0 2 f = F at *
  have X0 : K.Ext w w := K.Ext.refl w
  go_enter Tryz.func16, Tryz.ntmps16
  go_wp2_with (go_at_call 40; refine K.call (by with_reducible rfl) (by with_reducible rfl) (HT.out _ (K.ints.alloc (K.ints.alloc (K.ints.alloc hRL_ _) _) _) (K.ints.alloc (K.ints.alloc (K.ints.alloc hRR_ _) _) _)) ?_; rintro e w1 ⟨rfl, x1⟩; have s1 : w.heap.size + 3 ≤ w1.heap.size := (by have h_ := x1.size; (try simp at h_); omega); have X1 := K.Ext.trans (K.Ext.alloc (K.Ext.alloc (K.Ext.alloc X0 _) _) _) x1; obtain ⟨c1_0_0, c1_0_1, c1_0_2⟩ := K.c3 x1 (w.heap.size) (.int .i64 R.ln) (.slice oRL R.st.length cRL) (.slice oRR R.sl.length cRR) (by go_simp); have z1_0 : w.heap.size < w1.heap.size := World.block_lt_of_cell? w1 _ c1_0_0; have d1_0 : ¬ (w.heap.size = w1.heap.size) := (by omega); have e1_0 : ¬ (w1.heap.size = w.heap.size) := (by omega); obtain ⟨c1_1_0, c1_1_1⟩ := K.c2 x1 (w.heap.size + 1) (.int .i64 f.1) (.int .i64 f.2) (by go_simp); have z1_1 : w.heap.size + 1 < w1.heap.size := World.block_lt_of_cell? w1 _ c1_1_0; have d1_1 : ¬ (w.heap.size + 1 = w1.heap.size) := (by omega); have e1_1 : ¬ (w1.heap.size = w.heap.size + 1) := (by omega); have n1_0 : ¬ (w.heap.size + 1 = w.heap.size) := (by omega); have n0_1 : ¬ (w.heap.size = w.heap.size + 1) := (by omega); obtain ⟨c1_2_0, c1_2_1⟩ := K.c2 x1 (w.heap.size + 1 + 1) (.int .i64 0) (.int .i64 0) (by go_simp); obtain ⟨f1_2_0, f1_2_1⟩ := K.f2 x1 (w.heap.size + 1 + 1) (by go_simp); have z1_2 : w.heap.size + 1 + 1 < w1.heap.size := World.block_lt_of_cell? w1 _ c1_2_0; have d1_2 : ¬ (w.heap.size + 1 + 1 = w1.heap.size) := (by omega); have e1_2 : ¬ (w1.heap.size = w.heap.size + 1 + 1) := (by omega); have n2_0 : ¬ (w.heap.size + 1 + 1 = w.heap.size) := (by omega); have n0_2 : ¬ (w.heap.size = w.heap.size + 1 + 1) := (by omega); have n2_1 : ¬ (w.heap.size + 1 + 1 = w.heap.size + 1) := (by omega); have n1_2 : ¬ (w.heap.size + 1 = w.heap.size + 1 + 1) := (by omega); have F1_1 := K.ints.ext (K.ints.alloc (K.ints.alloc (K.ints.alloc hRL_ _) _) _) x1; have F2_1 := K.ints.ext (K.ints.alloc (K.ints.alloc (K.ints.alloc hRR_ _) _) _) x1; clear hRL_ hRR_)
  refine bodyPost_ret (v := .tuple #[.agg #[.int .i64 F.1.1, .int .i64 F.1.2], .int .i64 F.2]) (by unfold results; rw [Tryz.results16]; go_simp) rfl ⟨rfl, ?_⟩
  repeat with_reducible refine K.Ext.setCell ?_ (by dsimp only; omega) _
  exact (by repeat' (first | with_reducible exact X1 | with_reducible refine K.Ext.setCell ?_ ?_ _ | with_reducible refine K.Ext.alloc ?_ _ | with_reducible refine K.Ext.drew ?_ | (dsimp only; omega) | omega | (simp; omega)))
theorem impl_SquareRoot (R : Z.Rl) (f : Int × Int) {loRL hiRL loRR hiRR : Nat} {pRL pRR : Value} (w : World)  (hmRL : R.st.length ≤ 1048576) (hRL : K.ints w loRL hiRL pRL R.st) (hcRL : K.roomy pRL R.st.length) (hmRR : R.sl.length ≤ 1048576) (hRR : K.ints w loRR hiRR pRR R.sl) (hcRR : K.roomy pRR R.sl.length) :
    Calls Tryz.prog 14 #[.agg #[.int .i64 R.ln, pRL, pRR], .agg #[.int .i64 f.1, .int .i64 f.2]] w fun e w' => e = .returned (.tuple #[.agg #[.int .i64 ((Z.cuO R 1 0 f).1).1, .int .i64 ((Z.cuO R 1 0 f).1).2], .int .i64 ((Z.cuO R 1 0 f).2)]) ∧ K.Ext w w' := by
  have hRL_ := hRL
  have shRL := hRL
  obtain ⟨oRL, cRL, rfl, _⟩ := shRL
  have hRR_ := hRR
  have shRR := hRR
  obtain ⟨oRR, cRR, rfl, _⟩ := shRR
  have HT : Hid (∀ (W : World), K.ints W loRL hiRL (.slice oRL R.st.length cRL) R.st → K.ints W loRR hiRR (.slice oRR R.sl.length cRR) R.sl → Calls Tryz.prog 40 #[.agg #[.int .i64 R.ln, .slice oRL R.st.length cRL, .slice oRR R.sl.length cRR], .int .i64 1, .int .i64 0, .agg #[.int .i64 f.1, .int .i64 f.2]] W fun e w'' => e = .returned (.tuple #[.agg #[.int .i64 (Z.cuO R 1 0 f).1.1, .int .i64 (Z.cuO R 1 0 f).1.2], .int .i64 (Z.cuO R 1 0 f).2]) ∧ K.Ext W w'') := Z.hide (fun W k1 k2 => impl_placedT R 1 0 f W hmRL k1 hcRL hmRR k2 hcRR)
  generalize Z.cuO R 1 0 f = F at *
  have X0 : K.Ext w w := K.Ext.refl w
  go_enter Tryz.func14, Tryz.ntmps14
  go_wp2_with (go_at_call 40; refine K.call (by with_reducible rfl) (by with_reducible rfl) (HT.out _ (K.ints.alloc (K.ints.alloc (K.ints.alloc hRL_ _) _) _) (K.ints.alloc (K.ints.alloc (K.ints.alloc hRR_ _) _) _)) ?_; rintro e w1 ⟨rfl, x1⟩; have s1 : w.heap.size + 3 ≤ w1.heap.size := (by have h_ := x1.size; (try simp at h_); omega); have X1 := K.Ext.trans (K.Ext.alloc (K.Ext.alloc (K.Ext.alloc X0 _) _) _) x1; obtain ⟨c1_0_0, c1_0_1, c1_0_2⟩ := K.c3 x1 (w.heap.size) (.int .i64 R.ln) (.slice oRL R.st.length cRL) (.slice oRR R.sl.length cRR) (by go_simp); have z1_0 : w.heap.size < w1.heap.size := World.block_lt_of_cell? w1 _ c1_0_0; have d1_0 : ¬ (w.heap.size = w1.heap.size) := (by omega); have e1_0 : ¬ (w1.heap.size = w.heap.size) := (by omega); obtain ⟨c1_1_0, c1_1_1⟩ := K.c2 x1 (w.heap.size + 1) (.int .i64 f.1) (.int .i64 f.2) (by go_simp); have z1_1 : w.heap.size + 1 < w1.heap.size := World.block_lt_of_cell? w1 _ c1_1_0; have d1_1 : ¬ (w.heap.size + 1 = w1.heap.size) := (by omega); have e1_1 : ¬ (w1.heap.size = w.heap.size + 1) := (by omega); have n1_0 : ¬ (w.heap.size + 1 = w.heap.size) := (by omega); have n0_1 : ¬ (w.heap.size = w.heap.size + 1) := (by omega); obtain ⟨c1_2_0, c1_2_1⟩ := K.c2 x1 (w.heap.size + 1 + 1) (.int .i64 0) (.int .i64 0) (by go_simp); obtain ⟨f1_2_0, f1_2_1⟩ := K.f2 x1 (w.heap.size + 1 + 1) (by go_simp); have z1_2 : w.heap.size + 1 + 1 < w1.heap.size := World.block_lt_of_cell? w1 _ c1_2_0; have d1_2 : ¬ (w.heap.size + 1 + 1 = w1.heap.size) := (by omega); have e1_2 : ¬ (w1.heap.size = w.heap.size + 1 + 1) := (by omega); have n2_0 : ¬ (w.heap.size + 1 + 1 = w.heap.size) := (by omega); have n0_2 : ¬ (w.heap.size = w.heap.size + 1 + 1) := (by omega); have n2_1 : ¬ (w.heap.size + 1 + 1 = w.heap.size + 1) := (by omega); have n1_2 : ¬ (w.heap.size + 1 = w.heap.size + 1 + 1) := (by omega); have F1_1 := K.ints.ext (K.ints.alloc (K.ints.alloc (K.ints.alloc hRL_ _) _) _) x1; have F2_1 := K.ints.ext (K.ints.alloc (K.ints.alloc (K.ints.alloc hRR_ _) _) _) x1; clear hRL_ hRR_)
  refine bodyPost_ret (v := .tuple #[.agg #[.int .i64 F.1.1, .int .i64 F.1.2], .int .i64 F.2]) (by unfold results; rw [Tryz.results14]; go_simp) rfl ⟨rfl, ?_⟩
  repeat with_reducible refine K.Ext.setCell ?_ (by dsimp only; omega) _
  exact (by repeat' (first | with_reducible exact X1 | with_reducible refine K.Ext.setCell ?_ ?_ _ | with_reducible refine K.Ext.alloc ?_ _ | with_reducible refine K.Ext.drew ?_ | (dsimp only; omega) | omega | (simp; omega)))
theorem spec_CubeOf (R : Z.Rl) (f : Int × Int) {loRL hiRL loRR hiRR : Nat} {pRL pRR : Value} (w : World)  (hmRL : R.st.length ≤ 1048576) (hRL : K.ints w loRL hiRL pRL R.st) (hcRL : K.roomy pRL R.st.length) (hmRR : R.sl.length ≤ 1048576) (hRR : K.ints w loRR hiRR pRR R.sl) (hcRR : K.roomy pRR R.sl.length) :
    Calls Tryz.prog 17 #[.agg #[.int .i64 R.ln, pRL, pRR], .agg #[.int .i64 f.1, .int .i64 f.2]] w fun e w' => e = .returned (.tuple #[.agg #[.int .i64 ((Z.cuO R 0 2 f).1).1, .int .i64 ((Z.cuO R 0 2 f).1).2], .int .i64 ((Z.cuO R 0 2 f).2)]) ∧ K.Ext w w' := by
  have hRL_ := hRL
  have shRL := hRL
  obtain ⟨oRL, cRL, rfl, _⟩ := shRL
  have hRR_ := hRR
  have shRR := hRR
  obtain ⟨oRR, cRR, rfl, _⟩ := shRR
  have HT : Hid (∀ (W : World), K.ints W loRL hiRL (.slice oRL R.st.length cRL) R.st → K.ints W loRR hiRR (.slice oRR R.sl.length cRR) R.sl → Calls Tryz.prog 37 #[.agg #[.int .i64 R.ln, .slice oRL R.st.length cRL, .slice oRR R.sl.length cRR], .int .i64 0, .int .i64 2, .agg #[.int .i64 f.1, .int .i64 f.2]] W fun e w'' => e = .returned (.tuple #[.agg #[.int .i64 (Z.cuO R 0 2 f).1.1, .int .i64 (Z.cuO R 0 2 f).1.2], .int .i64 (Z.cuO R 0 2 f).2]) ∧ K.Ext W w'') := Z.hide (fun W k1 k2 => spec_placedT R 0 2 f W hmRL k1 hcRL hmRR k2 hcRR)
  generalize Z.cuO R 0 2 f = F at *
  have X0 : K.Ext w w := K.Ext.refl w
  go_enter Tryz.func17, Tryz.ntmps17
  go_wp2_with (go_at_call 37; refine K.call (by with_reducible rfl) (by with_reducible rfl) (HT.out _ (K.ints.alloc (K.ints.alloc (K.ints.alloc hRL_ _) _) _) (K.ints.alloc (K.ints.alloc (K.ints.alloc hRR_ _) _) _)) ?_; rintro e w1 ⟨rfl, x1⟩; have s1 : w.heap.size + 3 ≤ w1.heap.size := (by have h_ := x1.size; (try simp at h_); omega); have X1 := K.Ext.trans (K.Ext.alloc (K.Ext.alloc (K.Ext.alloc X0 _) _) _) x1; obtain ⟨c1_0_0, c1_0_1, c1_0_2⟩ := K.c3 x1 (w.heap.size) (.int .i64 R.ln) (.slice oRL R.st.length cRL) (.slice oRR R.sl.length cRR) (by go_simp); have z1_0 : w.heap.size < w1.heap.size := World.block_lt_of_cell? w1 _ c1_0_0; have d1_0 : ¬ (w.heap.size = w1.heap.size) := (by omega); have e1_0 : ¬ (w1.heap.size = w.heap.size) := (by omega); obtain ⟨c1_1_0, c1_1_1⟩ := K.c2 x1 (w.heap.size + 1) (.int .i64 f.1) (.int .i64 f.2) (by go_simp); have z1_1 : w.heap.size + 1 < w1.heap.size := World.block_lt_of_cell? w1 _ c1_1_0; have d1_1 : ¬ (w.heap.size + 1 = w1.heap.size) := (by omega); have e1_1 : ¬ (w1.heap.size = w.heap.size + 1) := (by omega); have n1_0 : ¬ (w.heap.size + 1 = w.heap.size) := (by omega); have n0_1 : ¬ (w.heap.size = w.heap.size + 1) := (by omega); obtain ⟨c1_2_0, c1_2_1⟩ := K.c2 x1 (w.heap.size + 1 + 1) (.int .i64 0) (.int .i64 0) (by go_simp); obtain ⟨f1_2_0, f1_2_1⟩ := K.f2 x1 (w.heap.size + 1 + 1) (by go_simp); have z1_2 : w.heap.size + 1 + 1 < w1.heap.size := World.block_lt_of_cell? w1 _ c1_2_0; have d1_2 : ¬ (w.heap.size + 1 + 1 = w1.heap.size) := (by omega); have e1_2 : ¬ (w1.heap.size = w.heap.size + 1 + 1) := (by omega); have n2_0 : ¬ (w.heap.size + 1 + 1 = w.heap.size) := (by omega); have n0_2 : ¬ (w.heap.size = w.heap.size + 1 + 1) := (by omega); have n2_1 : ¬ (w.heap.size + 1 + 1 = w.heap.size + 1) := (by omega); have n1_2 : ¬ (w.heap.size + 1 = w.heap.size + 1 + 1) := (by omega); have F1_1 := K.ints.ext (K.ints.alloc (K.ints.alloc (K.ints.alloc hRL_ _) _) _) x1; have F2_1 := K.ints.ext (K.ints.alloc (K.ints.alloc (K.ints.alloc hRR_ _) _) _) x1; clear hRL_ hRR_)
  refine bodyPost_ret (v := .tuple #[.agg #[.int .i64 F.1.1, .int .i64 F.1.2], .int .i64 F.2]) (by unfold results; rw [Tryz.results17]; go_simp) rfl ⟨rfl, ?_⟩
  repeat with_reducible refine K.Ext.setCell ?_ (by dsimp only; omega) _
  exact (by repeat' (first | with_reducible exact X1 | with_reducible refine K.Ext.setCell ?_ ?_ _ | with_reducible refine K.Ext.alloc ?_ _ | with_reducible refine K.Ext.drew ?_ | (dsimp only; omega) | omega | (simp; omega)))
theorem spec_SquareRoot (R : Z.Rl) (f : Int × Int) {loRL hiRL loRR hiRR : Nat} {pRL pRR : Value} (w : World)  (hmRL : R.st.length ≤ 1048576) (hRL : K.ints w loRL hiRL pRL R.st) (hcRL : K.roomy pRL R.st.length) (hmRR : R.sl.length ≤ 1048576) (hRR : K.ints w loRR hiRR pRR R.sl) (hcRR : K.roomy pRR R.sl.length) :
    Calls Tryz.prog 15 #[.agg #[.int .i64 R.ln, pRL, pRR], .agg #[.int .i64 f.1, .int .i64 f.2]] w fun e w' => e = .returned (.tuple #[.agg #[.int .i64 ((Z.cuO R 1 0 f).1).1, .int .i64 ((Z.cuO R 1 0 f).1).2], .int .i64 ((Z.cuO R 1 0 f).2)]) ∧ K.Ext w w' := by
  have hRL_ := hRL
  have shRL := hRL
  obtain ⟨oRL, cRL, rfl, _⟩ := shRL
  have hRR_ := hRR
  have shRR := hRR
  obtain ⟨oRR, cRR, rfl, _⟩ := shRR
  have HT : Hid (∀ (W : World), K.ints W loRL hiRL (.slice oRL R.st.length cRL) R.st → K.ints W loRR hiRR (.slice oRR R.sl.length cRR) R.sl → Calls Tryz.prog 37 #[.agg #[.int .i64 R.ln, .slice oRL R.st.length cRL, .slice oRR R.sl.length cRR], .int .i64 1, .int .i64 0, .agg #[.int .i64 f.1, .int .i64 f.2]] W fun e w'' => e = .returned (.tuple #[.agg #[.int .i64 (Z.cuO R 1 0 f).1.1, .int .i64 (Z.cuO R 1 0 f).1.2], .int .i64 (Z.cuO R 1 0 f).2]) ∧ K.Ext W w'') := Z.hide (fun W k1 k2 => spec_placedT R 1 0 f W hmRL k1 hcRL hmRR k2 hcRR)
  generalize Z.cuO R 1 0 f = F at *
  have X0 : K.Ext w w := K.Ext.refl w
  go_enter Tryz.func15, Tryz.ntmps15
  go_wp2_with (go_at_call 37; refine K.call (by with_reducible rfl) (by with_reducible rfl) (HT.out _ (K.ints.alloc (K.ints.alloc (K.ints.alloc hRL_ _) _) _) (K.ints.alloc (K.ints.alloc (K.ints.alloc hRR_ _) _) _)) ?_; rintro e w1 ⟨rfl, x1⟩; have s1 : w.heap.size + 3 ≤ w1.heap.size := (by have h_ := x1.size; (try simp at h_); omega); have X1 := K.Ext.trans (K.Ext.alloc (K.Ext.alloc (K.Ext.alloc X0 _) _) _) x1; obtain ⟨c1_0_0, c1_0_1, c1_0_2⟩ := K.c3 x1 (w.heap.size) (.int .i64 R.ln) (.slice oRL R.st.length cRL) (.slice oRR R.sl.length cRR) (by go_simp); have z1_0 : w.heap.size < w1.heap.size := World.block_lt_of_cell? w1 _ c1_0_0; have d1_0 : ¬ (w.heap.size = w1.heap.size) := (by omega); have e1_0 : ¬ (w1.heap.size = w.heap.size) := (by omega); obtain ⟨c1_1_0, c1_1_1⟩ := K.c2 x1 (w.heap.size + 1) (.int .i64 f.1) (.int .i64 f.2) (by go_simp); have z1_1 : w.heap.size + 1 < w1.heap.size := World.block_lt_of_cell? w1 _ c1_1_0; have d1_1 : ¬ (w.heap.size + 1 = w1.heap.size) := (by omega); have e1_1 : ¬ (w1.heap.size = w.heap.size + 1) := (by omega); have n1_0 : ¬ (w.heap.size + 1 = w.heap.size) := (by omega); have n0_1 : ¬ (w.heap.size = w.heap.size + 1) := (by omega); obtain ⟨c1_2_0, c1_2_1⟩ := K.c2 x1 (w.heap.size + 1 + 1) (.int .i64 0) (.int .i64 0) (by go_simp); obtain ⟨f1_2_0, f1_2_1⟩ := K.f2 x1 (w.heap.size + 1 + 1) (by go_simp); have z1_2 : w.heap.size + 1 + 1 < w1.heap.size := World.block_lt_of_cell? w1 _ c1_2_0; have d1_2 : ¬ (w.heap.size + 1 + 1 = w1.heap.size) := (by omega); have e1_2 : ¬ (w1.heap.size = w.heap.size + 1 + 1) := (by omega); have n2_0 : ¬ (w.heap.size + 1 + 1 = w.heap.size) := (by omega); have n0_2 : ¬ (w.heap.size = w.heap.size + 1 + 1) := (by omega); have n2_1 : ¬ (w.heap.size + 1 + 1 = w.heap.size + 1) := (by omega); have n1_2 : ¬ (w.heap.size + 1 = w.heap.size + 1 + 1) := (by omega); have F1_1 := K.ints.ext (K.ints.alloc (K.ints.alloc (K.ints.alloc hRL_ _) _) _) x1; have F2_1 := K.ints.ext (K.ints.alloc (K.ints.alloc (K.ints.alloc hRR_ _) _) _) x1; clear hRL_ hRR_)
  refine bodyPost_ret (v := .tuple #[.agg #[.int .i64 F.1.1, .int .i64 F.1.2], .int .i64 F.2]) (by unfold results; rw [Tryz.results15]; go_simp) rfl ⟨rfl, ?_⟩
  repeat with_reducible refine K.Ext.setCell ?_ (by dsimp only; omega) _
  exact (by repeat' (first | with_reducible exact X1 | with_reducible refine K.Ext.setCell ?_ ?_ _ | with_reducible refine K.Ext.alloc ?_ _ | with_reducible refine K.Ext.drew ?_ | (dsimp only; omega) | omega | (simp; omega)))
end Go.Proofs.YtimpcelbekhipaaGreat
end
section
namespace Go.Z
/-- the number of the first figure whose upper logarithm is above u -/
def firstHigh (u : Int) : Int := firstN (fun n => u < (figLog (atN n)).2) (-270000) 549000
/-- the number of the first figure whose lower logarithm is at least u -/
def firstLow (u : Int) : Int := firstN (fun n => u ≤ (figLog (atN n)).1) (-270000) 549000
def below (u : Int) : Int × Int := atN (firstHigh u - 1)
def above (u : Int) : Int × Int := atN (firstLow u)
def units (u : Int) : Bool := decide (-31457280 ≤ u) && decide (u ≤ 31457280)
theorem atN_at {i t : Int} (h0 : 0 ≤ i) (h1 : i < 9000) : atN (9000 * t + i) = (1000 + i, t) := by
  have a : (9000 * t + i) % 9000 = i := by omega
  have b : (9000 * t + i) / 9000 = t := by omega
  unfold atN; rw [a, b]
end Go.Z
namespace Go.Proofs.YtimpcelbekhipaaGreat
open Go.RowKit
end Go.Proofs.YtimpcelbekhipaaGreat
end
section
namespace Go.Z
def p10 : Nat → Int
  | 0 => 1
  | n + 1 => p10 n * 10
theorem p10_bd : ∀ n : Nat, n ≤ 7 → 1 ≤ p10 n ∧ p10 n ≤ 10000000
  | 0, _ | 1, _ | 2, _ | 3, _ | 4, _ | 5, _ | 6, _ | 7, _ => by decide
  | n + 8, h => absurd h (by omega)
/-- the error of a from b in millionths (9000001 if it is too great) -/
def relE (a b : Int × Int) : Int :=
  if 1 < a.2 - b.2 then 9000001 else if a.2 - b.2 < -6 then 1000000 else cl (1000000 * ab (a.1 * p10 (a.2 - b.2).toNat - b.1 * p10 (-(a.2 - b.2)).toNat)) (b.1 * p10 (-(a.2 - b.2)).toNat)
def relO (a b : Int × Int) : Int × Int := if 9000000 < relE a b then (0, 3) else (relE a b, 0)
theorem rel_7 {x y : Int} (h1 : 1000 ≤ x) (h2 : x ≤ 9999) (h3 : 1000 ≤ y) (h4 : y ≤ 9999) : cl (1000000 * ab (x * 1 - y * 10000000)) (y * 10000000) = 1000000 := by
  have hA : ab (x * 1 - y * 10000000) = y * 10000000 - x := by unfold ab; omega
  rw [hA]
  have : fl (-(1000000 * (y * 10000000 - x))) (y * 10000000) = -1000000 := fl_unique _ _ _ (by omega) (by omega) (by omega)
  unfold cl; rw [this]; decide
theorem mul_in {x m X M : Int} (h0 : 0 ≤ x) (h1 : x ≤ X) (h2 : 1 ≤ m) (h3 : m ≤ M) : x ≤ x * m ∧ x * m ≤ X * M := by
  refine ⟨?_, ?_⟩
  · have := Int.mul_le_mul_of_nonneg_left h2 h0; omega
  · calc x * m ≤ X * m := Int.mul_le_mul_of_nonneg_right h1 (by omega)
      _ ≤ X * M := Int.mul_le_mul_of_nonneg_left h3 (by omega)
end Go.Z
namespace Go.Proofs.YtimpcelbekhipaaGreat
open Go.RowKit
theorem ten_any (n : Nat) (w : World) (hn : n ≤ 7) :
    Calls Tryz.prog 76 #[.int .i64 (n : Int)] w fun e w' => e = .returned (.int .i64 (Z.p10 n)) ∧ w = w' := by
  go_enter Tryz.func76, Tryz.ntmps76
  go_wp2
  go_loop [3, 5] (fun o i => ∃ k : Nat, k ≤ n ∧ i = .int .i64 k ∧ o = .int .i64 (Z.p10 k)) (fun _ i => n - (intOf i).toNat)
  case atStart => exact ⟨0, Nat.zero_le _, rfl, rfl⟩
  case round =>
    obtain ⟨k, hk, rfl, rfl⟩ := hrel
    by_cases hlt : k < n
    · have hb := Z.p10_bd k (by omega)
      have q1 : IntKind.i64.wrap (Z.p10 k * 10) = Z.p10 k * 10 := IntWalk.i64_in _ (by omega)
      have HS : Hid (Z.p10 (k + 1) = Z.p10 k * 10) := Z.hide rfl
      generalize Z.p10 k = a at *
      go_wp2
      go_round
      case rel => exact ⟨k + 1, by omega, by go_num, by rw [HS.out]⟩
      case measure => simp [intOf]; omega
    · obtain rfl : k = n := by omega
      go_wp2
      go_ret
      exact ⟨rfl, rfl⟩
theorem ten_m (t u : Int) (w : World) (h : u = max 0 t) (ht : t ≤ 7) : Calls Tryz.prog 76 #[.int .i64 u] w fun e w' => e = .returned (.int .i64 (Z.p10 t.toNat)) ∧ K.Ext w w' := by
  have := ten_any t.toNat w (by omega)
  rw [show ((t.toNat : Nat) : Int) = u by omega] at this
  exact this.mono fun e w' ⟨h1, h2⟩ => ⟨h1, h2 ▸ K.Ext.refl _⟩
set_option maxHeartbeats 1600000 in
theorem relativeError_any (a : Int × Int) (b : Int × Int)  (w : World) (a1 : 1000 ≤ a.1) (a2 : a.1 ≤ 9999) (a3 : -30 ≤ a.2 ∧ a.2 ≤ 30) (b1 : 1000 ≤ b.1) (b2 : b.1 ≤ 9999) (b3 : -30 ≤ b.2 ∧ b.2 ≤ 30)  :
    Calls Tryz.prog 41 #[.agg #[.int .i64 a.1, .int .i64 a.2], .agg #[.int .i64 b.1, .int .i64 b.2]] w fun e w' => e = .returned (.tuple #[.int .i64 ((Z.relO a b).1), .int .i64 ((Z.relO a b).2)]) ∧ K.Ext w w' := by
  have HM : Hid (Z.relO a b = if 9000000 < Z.relE a b then (0, 3) else (Z.relE a b, 0)) := Z.hide rfl
  have HR : Hid (Z.relE a b = if 1 < a.2 - b.2 then 9000001 else if a.2 - b.2 < -6 then 1000000 else Z.cl (1000000 * Z.ab (a.1 * Z.p10 (a.2 - b.2).toNat - b.1 * Z.p10 (-(a.2 - b.2)).toNat)) (b.1 * Z.p10 (-(a.2 - b.2)).toNat)) := Z.hide rfl
  obtain ⟨t, ht⟩ : ∃ t, a.2 - b.2 = t := ⟨_, rfl⟩
  rw [ht] at HR
  have q0 : IntKind.i64.wrap (a.2 - b.2) = t := by rw [ht]; exact IntWalk.i64_in _ (by omega)
  have tb : -60 ≤ t ∧ t ≤ 60 := by omega
  have q9 : IntKind.i64.wrap (-t) = -t := IntWalk.i64_in _ (by omega)
  clear ht
  by_cases h1 : 1 < t
  · have HE : Hid (Z.relO a b = (0, 3)) := Z.hide (by rw [HM.out, HR.out, if_pos h1, if_pos (by decide)])
    have g1 : 2 ≤ t := by omega
    generalize Z.relO a b = M at *
    clear HM HR
    have X0 : K.Ext w w := K.Ext.refl w
    go_enter Tryz.func41, Tryz.ntmps41
    go_wp2_with fail
    rw [HE.out]
    refine bodyPost_ret (v := .tuple #[.int .i64 0, .int .i64 3]) (by unfold results; rw [Tryz.results41]; go_simp) rfl ⟨rfl, ?_⟩
    repeat with_reducible refine K.Ext.setCell ?_ (by dsimp only; omega) _
    exact (by repeat' (first | with_reducible exact X0 | with_reducible refine K.Ext.setCell ?_ ?_ _ | with_reducible refine K.Ext.alloc ?_ _ | with_reducible refine K.Ext.drew ?_ | (dsimp only; omega) | omega | (simp; omega)))
  have g1 : ¬ (2 ≤ t) := by omega
  by_cases h2 : t ≤ -8
  · have HE : Hid (Z.relO a b = (1000000, 0)) := Z.hide (by rw [HM.out, HR.out, if_neg h1, if_pos (show t < -6 by omega), if_neg (by decide)])
    generalize Z.relO a b = M at *
    clear HM HR
    have X0 : K.Ext w w := K.Ext.refl w
    go_enter Tryz.func41, Tryz.ntmps41
    go_wp2_with fail
    rw [HE.out]
    refine bodyPost_ret (v := .tuple #[.int .i64 1000000, .int .i64 0]) (by unfold results; rw [Tryz.results41]; go_simp) rfl ⟨rfl, ?_⟩
    repeat with_reducible refine K.Ext.setCell ?_ (by dsimp only; omega) _
    exact (by repeat' (first | with_reducible exact X0 | with_reducible refine K.Ext.setCell ?_ ?_ _ | with_reducible refine K.Ext.alloc ?_ _ | with_reducible refine K.Ext.drew ?_ | (dsimp only; omega) | omega | (simp; omega)))
  obtain ⟨u, hu⟩ : ∃ u, Z.cl (1000000 * Z.ab (a.1 * Z.p10 t.toNat - b.1 * Z.p10 (-t).toNat)) (b.1 * Z.p10 (-t).toNat) = u := ⟨_, rfl⟩
  have HU : Hid (Z.relO a b = if 9000000 < u then (0, 3) else (u, 0)) := Z.hide (by
    rw [HM.out, HR.out, if_neg h1, hu]
    by_cases h7 : t < -6
    · obtain rfl : t = -7 := by omega
      have hu' : u = 1000000 := by rw [← hu]; exact Z.rel_7 a1 a2 b1 b2
      rw [if_pos h7, hu']
    · rw [if_neg h7])
  clear HM HR
  generalize Z.relO a b = M at *
  have HT1 := Z.hide (fun w => ten_m t (max 0 t) w rfl (by omega))
  have HT2 := Z.hide (fun w => ten_m (-t) (max 0 (-t)) w rfl (by omega))
  have m1 := Z.p10_bd t.toNat (by omega)
  have m2 := Z.p10_bd (-t).toNat (by omega)
  generalize Z.p10 t.toNat = m at *
  generalize Z.p10 (-t).toNat = k at *
  have e1 := Z.mul_in (x := a.1) (m := m) (by omega) a2 m1.1 m1.2
  have e2 := Z.mul_in (x := b.1) (m := k) (by omega) b2 m2.1 m2.2
  obtain ⟨x, hx⟩ : ∃ x, a.1 * m = x := ⟨_, rfl⟩
  obtain ⟨y, hy⟩ : ∃ y, b.1 * k = y := ⟨_, rfl⟩
  rw [hx] at e1
  rw [hy] at e2
  rw [hx, hy] at hu
  have r1 : wrap64 (a.1 * m) = x := by rw [hx]; unfold wrap64; omega
  have r2 : wrap64 (b.1 * k) = y := by rw [hy]; unfold wrap64; omega
  have q1 : IntKind.i64.wrap (a.1 * m) = x := by rw [hx]; exact IntWalk.i64_in _ (by omega)
  have q2 : IntKind.i64.wrap (b.1 * k) = y := by rw [hy]; exact IntWalk.i64_in _ (by omega)
  clear hx hy
  have q3 : IntKind.i64.wrap (x - y) = x - y := IntWalk.i64_in _ (by omega)
  have q4 : IntKind.i64.wrap (y - x) = y - x := IntWalk.i64_in _ (by omega)
  have q5 : IntKind.i64.wrap (1000000 * max (x - y) (y - x)) = 1000000 * max (x - y) (y - x) := IntWalk.i64_in _ (by omega)
  have r3 : wrap64 (x - y) = x - y := by unfold wrap64; omega
  have r4 : wrap64 (y - x) = y - x := by unfold wrap64; omega
  have r5 : wrap64 (1000000 * max (x - y) (y - x)) = 1000000 * max (x - y) (y - x) := by unfold wrap64; omega
  have HUP : Hid (∀ w : World, Calls Tryz.prog 77 #[.int .i64 (1000000 * max (x - y) (y - x)), .int .i64 y] w fun e w' => e = .returned (.int .i64 u) ∧ w = w') := Z.hide (fun w => by
    rw [show max (x - y) (y - x) = Z.ab (x - y) by unfold Z.ab; omega, ← hu]
    exact up_any _ _ w (by omega) (by unfold Z.ab; omega) (by unfold Z.ab; omega))
  clear hu
  by_cases h3 : 9000000 < u
  · rw [if_pos h3] at HU
    have X0 : K.Ext w w := K.Ext.refl w
    go_enter Tryz.func41, Tryz.ntmps41
    go_wp2_with fail
    refine K.wp_region_x 14 [0, 1, 0, 0, 2, 0, 0, 1, 0, 0, 0, 2, 0, 0] [K.SP.any, K.SP.any, K.SP.any, K.SP.any, K.SP.is (.int .i64 m), K.SP.any, K.SP.any, K.SP.any, K.SP.any, K.SP.any, K.SP.any, K.SP.is (.int .i64 k)] (by kernel_rfl) (by kernel_rfl) ?_
    simp only [List.take_succ_cons, List.take_zero, List.drop_succ_cons, List.drop_zero]
    refine K.xp ?_
    simp only [Act.put, List.setIfInBounds_toArray, List.set]
    refine K.xh ?_
    simp only [Act.put, List.setIfInBounds_toArray, List.set]
    iterate 2
      refine K.xp ?_
      simp only [Act.put, List.setIfInBounds_toArray, List.set]
    apply K.x_call_is
    · rfl
    · rfl
    · rfl
    · intro w'; go_simp; first | done | rfl | exact ⟨rfl, rfl⟩
    · intro w' hx hp; have hc := hx.all.1.1; have hf := hx.all.1.2; have hc' := hx.all.2.1; have hf' := hx.all.2.2; exact HT1.out _
    intro w_4_ hx_4_
    simp only [Act.put, List.setIfInBounds_toArray, List.set]
    iterate 2
      refine K.xp ?_
      simp only [Act.put, List.setIfInBounds_toArray, List.set]
    refine K.xh ?_
    simp only [Act.put, List.setIfInBounds_toArray, List.set]
    iterate 3
      refine K.xp ?_
      simp only [Act.put, List.setIfInBounds_toArray, List.set]
    apply K.x_call_is
    · rfl
    · rfl
    · rfl
    · intro w'; go_simp; first | done | rfl | exact ⟨rfl, rfl⟩
    · intro w' hx hp; have hc := hx.all.1.1; have hf := hx.all.1.2; have hc' := hx.all.2.1; have hf' := hx.all.2.2; exact HT2.out _
    intro w_11_ hx_11_
    simp only [Act.put, List.setIfInBounds_toArray, List.set]
    iterate 2
      refine K.xp ?_
      simp only [Act.put, List.setIfInBounds_toArray, List.set]
    apply K.x_done
    intro w1 h_x
    have x1 := hx_4_.trans (hx_11_.trans h_x)
    clear h_x hx_4_ hx_11_
    obtain ⟨⟨hcw1, hfw1⟩, hc'w1, hf'w1⟩ := x1.all
    have s1 : w.heap.size + 2 ≤ w1.heap.size := (by have h_ := x1.size; (try simp at h_); omega)
    have X1 := K.Ext.trans (K.Ext.drew (K.Ext.alloc (K.Ext.alloc X0 _) _)) x1
    obtain ⟨c1_0_0, c1_0_1⟩ := K.c2 x1 (w.heap.size) (.int .i64 a.1) (.int .i64 a.2) (by go_simp)
    have z1_0 : w.heap.size < w1.heap.size := World.block_lt_of_cell? w1 _ c1_0_0
    have d1_0 : ¬ (w.heap.size = w1.heap.size) := (by omega)
    have e1_0 : ¬ (w1.heap.size = w.heap.size) := (by omega)
    obtain ⟨c1_1_0, c1_1_1⟩ := K.c2 x1 (w.heap.size + 1) (.int .i64 b.1) (.int .i64 b.2) (by go_simp)
    have z1_1 : w.heap.size + 1 < w1.heap.size := World.block_lt_of_cell? w1 _ c1_1_0
    have d1_1 : ¬ (w.heap.size + 1 = w1.heap.size) := (by omega)
    have e1_1 : ¬ (w1.heap.size = w.heap.size + 1) := (by omega)
    have n1_0 : ¬ (w.heap.size + 1 = w.heap.size) := (by omega)
    have n0_1 : ¬ (w.heap.size = w.heap.size + 1) := (by omega)
    go_wp2_with fail
    refine NoPanic.normal ?_
    go_wp2_with (go_at_call 77; refine K.call (by with_reducible rfl) (by with_reducible rfl) (HUP.out _) ?_; rintro e w_ ⟨rfl, rfl⟩)
    rw [HU.out]
    refine bodyPost_ret (v := .tuple #[.int .i64 0, .int .i64 3]) (by unfold results; rw [Tryz.results41]; go_simp) rfl ⟨rfl, ?_⟩
    repeat with_reducible refine K.Ext.setCell ?_ (by dsimp only; omega) _
    exact (by repeat' (first | with_reducible exact X1 | with_reducible refine K.Ext.setCell ?_ ?_ _ | with_reducible refine K.Ext.alloc ?_ _ | with_reducible refine K.Ext.drew ?_ | (dsimp only; omega) | omega | (simp; omega)))
  · rw [if_neg h3] at HU
    have X0 : K.Ext w w := K.Ext.refl w
    go_enter Tryz.func41, Tryz.ntmps41
    go_wp2_with fail
    refine K.wp_region_x 14 [0, 1, 0, 0, 2, 0, 0, 1, 0, 0, 0, 2, 0, 0] [K.SP.any, K.SP.any, K.SP.any, K.SP.any, K.SP.is (.int .i64 m), K.SP.any, K.SP.any, K.SP.any, K.SP.any, K.SP.any, K.SP.any, K.SP.is (.int .i64 k)] (by kernel_rfl) (by kernel_rfl) ?_
    simp only [List.take_succ_cons, List.take_zero, List.drop_succ_cons, List.drop_zero]
    refine K.xp ?_
    simp only [Act.put, List.setIfInBounds_toArray, List.set]
    refine K.xh ?_
    simp only [Act.put, List.setIfInBounds_toArray, List.set]
    iterate 2
      refine K.xp ?_
      simp only [Act.put, List.setIfInBounds_toArray, List.set]
    apply K.x_call_is
    · rfl
    · rfl
    · rfl
    · intro w'; go_simp; first | done | rfl | exact ⟨rfl, rfl⟩
    · intro w' hx hp; have hc := hx.all.1.1; have hf := hx.all.1.2; have hc' := hx.all.2.1; have hf' := hx.all.2.2; exact HT1.out _
    intro w_4_ hx_4_
    simp only [Act.put, List.setIfInBounds_toArray, List.set]
    iterate 2
      refine K.xp ?_
      simp only [Act.put, List.setIfInBounds_toArray, List.set]
    refine K.xh ?_
    simp only [Act.put, List.setIfInBounds_toArray, List.set]
    iterate 3
      refine K.xp ?_
      simp only [Act.put, List.setIfInBounds_toArray, List.set]
    apply K.x_call_is
    · rfl
    · rfl
    · rfl
    · intro w'; go_simp; first | done | rfl | exact ⟨rfl, rfl⟩
    · intro w' hx hp; have hc := hx.all.1.1; have hf := hx.all.1.2; have hc' := hx.all.2.1; have hf' := hx.all.2.2; exact HT2.out _
    intro w_11_ hx_11_
    simp only [Act.put, List.setIfInBounds_toArray, List.set]
    iterate 2
      refine K.xp ?_
      simp only [Act.put, List.setIfInBounds_toArray, List.set]
    apply K.x_done
    intro w1 h_x
    have x1 := hx_4_.trans (hx_11_.trans h_x)
    clear h_x hx_4_ hx_11_
    obtain ⟨⟨hcw1, hfw1⟩, hc'w1, hf'w1⟩ := x1.all
    have s1 : w.heap.size + 2 ≤ w1.heap.size := (by have h_ := x1.size; (try simp at h_); omega)
    have X1 := K.Ext.trans (K.Ext.drew (K.Ext.alloc (K.Ext.alloc X0 _) _)) x1
    obtain ⟨c1_0_0, c1_0_1⟩ := K.c2 x1 (w.heap.size) (.int .i64 a.1) (.int .i64 a.2) (by go_simp)
    have z1_0 : w.heap.size < w1.heap.size := World.block_lt_of_cell? w1 _ c1_0_0
    have d1_0 : ¬ (w.heap.size = w1.heap.size) := (by omega)
    have e1_0 : ¬ (w1.heap.size = w.heap.size) := (by omega)
    obtain ⟨c1_1_0, c1_1_1⟩ := K.c2 x1 (w.heap.size + 1) (.int .i64 b.1) (.int .i64 b.2) (by go_simp)
    have z1_1 : w.heap.size + 1 < w1.heap.size := World.block_lt_of_cell? w1 _ c1_1_0
    have d1_1 : ¬ (w.heap.size + 1 = w1.heap.size) := (by omega)
    have e1_1 : ¬ (w1.heap.size = w.heap.size + 1) := (by omega)
    have n1_0 : ¬ (w.heap.size + 1 = w.heap.size) := (by omega)
    have n0_1 : ¬ (w.heap.size = w.heap.size + 1) := (by omega)
    go_wp2_with fail
    refine NoPanic.normal ?_
    go_wp2_with (go_at_call 77; refine K.call (by with_reducible rfl) (by with_reducible rfl) (HUP.out _) ?_; rintro e w_ ⟨rfl, rfl⟩)
    rw [HU.out]
    refine bodyPost_ret (v := .tuple #[.int .i64 u, .int .i64 0]) (by unfold results; rw [Tryz.results41]; go_simp) rfl ⟨rfl, ?_⟩
    repeat with_reducible refine K.Ext.setCell ?_ (by dsimp only; omega) _
    exact (by repeat' (first | with_reducible exact X1 | with_reducible refine K.Ext.setCell ?_ ?_ _ | with_reducible refine K.Ext.alloc ?_ _ | with_reducible refine K.Ext.drew ?_ | (dsimp only; omega) | omega | (simp; omega)))
end Go.Proofs.YtimpcelbekhipaaGreat
end
section
namespace Go.Z
def relX (a b : Int × Int) : Int × Int := if (isFig a.1 a.2 && isFig b.1 b.2) = false then (0, 1) else relO a b
end Go.Z
namespace Go.Proofs.YtimpcelbekhipaaGreat
open Go.RowKit
end Go.Proofs.YtimpcelbekhipaaGreat
end
section
namespace Go.Z
theorem figOr_valid {f : Int × Int} (h : (figOr f).2 = 0) : isFig (figOr f).1.1 (figOr f).1.2 = true := by
  unfold figOr at h ⊢
  cases hf : isFig f.1 f.2
  · rw [hf, if_neg (by decide)] at h; exact absurd h (by decide)
  · exact hf
theorem pl_valid {fr to : Int} {f rd : Int × Int} (h : (plO fr to f rd).2 = 0) : isFig (plO fr to f rd).1.1 (plO fr to f rd).1.2 = true := by
  unfold plO at h ⊢
  split at h
  · exact absurd h (by decide)
  rename_i h1
  split at h
  · exact absurd h (by decide)
  rename_i h2
  rw [if_neg h1, if_neg h2]
  exact figOr_valid h
theorem cu_valid {R : Rl} {fr to : Int} {f : Int × Int} (h : (cuO R fr to f).2 = 0) : isFig (cuO R fr to f).1.1 (cuO R fr to f).1.2 = true := by
  unfold cuO at h ⊢
  split at h
  · rename_i h1; rw [if_pos h1]; exact pl_valid h
  · rename_i h1; exact absurd h h1
end Go.Z
namespace Go.Proofs.YtimpcelbekhipaaGreat
open Go.RowKit
end Go.Proofs.YtimpcelbekhipaaGreat
end
section
namespace Go.Z
noncomputable def ttO (R : Rl) (fr to : Int) (fs : List (Int × Int)) : List (Int × Int) × Int :=
  if ¬ tCode R fr to (areFigs fs) = 0 then ([], tCode R fr to (areFigs fs)) else if 20 < fs.length then ([], 3) else (fs.map (trF fr to), 0)
theorem map_take_succ {α β : Type} (g : α → β) (fs : List α) (k : Nat) {d : α} (h : k < fs.length) : (fs.map g).take (k + 1) = (fs.map g).take k ++ [g (fs.getD k d)] := by
  rw [List.take_add_one, List.getElem?_map, List.getD_eq_getElem?_getD, List.getElem?_eq_getElem h]; rfl
end Go.Z
namespace Go.Proofs.YtimpcelbekhipaaGreat
open Go.RowKit
theorem impl_RelativeError (a : Int × Int) (b : Int × Int)  (w : World)   :
    Calls Tryz.prog 24 #[.agg #[.int .i64 a.1, .int .i64 a.2], .agg #[.int .i64 b.1, .int .i64 b.2]] w fun e w' => e = .returned (.tuple #[.int .i64 ((Z.relX a b).1), .int .i64 ((Z.relX a b).2)]) ∧ K.Ext w w' := by
  have HM : Hid (Z.relX a b = if (Z.isFig a.1 a.2 && Z.isFig b.1 b.2) = false then (0, 1) else Z.relO a b) := Z.hide rfl
  have HG : Hid (∀ (W : World) (g : Nat) (t : TypeId), W.heap[g]? = some (.cells #[.int .i64 a.1, .int .i64 a.2, .int .i64 b.1, .int .i64 b.2] t) → Calls Tryz.prog 54 #[.slice (some ⟨g, 0, none⟩) 2 2] W fun e w'' => e = .returned (.bool (Z.isFig a.1 a.2 && Z.isFig b.1 b.2)) ∧ K.Ext W w'') := Z.hide (fun W g t h => areTwo_any a b W h)
  obtain ⟨M, hM⟩ : ∃ M, Z.relX a b = M := ⟨_, rfl⟩
  rw [hM] at HM ⊢
  clear hM
  cases hg : (Z.isFig a.1 a.2 && Z.isFig b.1 b.2)
  · rw [hg] at HG
    rw [if_pos hg] at HM
    clear hg
    have X0 : K.Ext w w := K.Ext.refl w
    go_enter Tryz.func24, Tryz.ntmps24
    go_wp2_with (go_at_call 54; refine K.call (by with_reducible rfl) (by with_reducible rfl) (HG.out _ _ _ (K.block_new (by simp))) ?_; rintro e w1 ⟨rfl, x1⟩; have s1 : w.heap.size + 3 ≤ w1.heap.size := (by have h_ := x1.size; (try simp at h_); omega); have X1 := K.Ext.trans (K.Ext.alloc (K.Ext.alloc (K.Ext.alloc X0 _) _) _) x1; obtain ⟨c1_0_0, c1_0_1⟩ := K.c2 x1 (w.heap.size) (.int .i64 a.1) (.int .i64 a.2) (by go_simp); have z1_0 : w.heap.size < w1.heap.size := World.block_lt_of_cell? w1 _ c1_0_0; have d1_0 : ¬ (w.heap.size = w1.heap.size) := (by omega); have e1_0 : ¬ (w1.heap.size = w.heap.size) := (by omega); obtain ⟨c1_1_0, c1_1_1⟩ := K.c2 x1 (w.heap.size + 1) (.int .i64 b.1) (.int .i64 b.2) (by go_simp); have z1_1 : w.heap.size + 1 < w1.heap.size := World.block_lt_of_cell? w1 _ c1_1_0; have d1_1 : ¬ (w.heap.size + 1 = w1.heap.size) := (by omega); have e1_1 : ¬ (w1.heap.size = w.heap.size + 1) := (by omega); have n1_0 : ¬ (w.heap.size + 1 = w.heap.size) := (by omega); have n0_1 : ¬ (w.heap.size = w.heap.size + 1) := (by omega))
    rw [HM.out]
    refine bodyPost_ret (v := .tuple #[.int .i64 0, .int .i64 1]) (by unfold results; rw [Tryz.results24]; go_simp) rfl ⟨rfl, ?_⟩
    repeat with_reducible refine K.Ext.setCell ?_ (by dsimp only; omega) _
    exact (by repeat' (first | with_reducible exact X1 | with_reducible refine K.Ext.setCell ?_ ?_ _ | with_reducible refine K.Ext.alloc ?_ _ | with_reducible refine K.Ext.drew ?_ | (dsimp only; omega) | omega | (simp; omega)))
  obtain ⟨ga, gb⟩ := Bool.and_eq_true_iff.1 hg
  obtain ⟨⟨a1, a2⟩, a3, a4⟩ := Z.isFig_parts ga
  obtain ⟨⟨b1, b2⟩, b3, b4⟩ := Z.isFig_parts gb
  rw [hg] at HG
  rw [if_neg (by rw [hg]; decide)] at HM
  have HR := Z.hide (fun w => relativeError_any a b w a1 a2 ⟨a3, a4⟩ b1 b2 ⟨b3, b4⟩)
  rw [← HM.out] at HR
  clear hg ga gb HM
  have X0 : K.Ext w w := K.Ext.refl w
  go_enter Tryz.func24, Tryz.ntmps24
  go_wp2_with (go_at_call 54; refine K.call (by with_reducible rfl) (by with_reducible rfl) (HG.out _ _ _ (K.block_new (by simp))) ?_; rintro e w1 ⟨rfl, x1⟩; have s1 : w.heap.size + 3 ≤ w1.heap.size := (by have h_ := x1.size; (try simp at h_); omega); have X1 := K.Ext.trans (K.Ext.alloc (K.Ext.alloc (K.Ext.alloc X0 _) _) _) x1; obtain ⟨c1_0_0, c1_0_1⟩ := K.c2 x1 (w.heap.size) (.int .i64 a.1) (.int .i64 a.2) (by go_simp); have z1_0 : w.heap.size < w1.heap.size := World.block_lt_of_cell? w1 _ c1_0_0; have d1_0 : ¬ (w.heap.size = w1.heap.size) := (by omega); have e1_0 : ¬ (w1.heap.size = w.heap.size) := (by omega); obtain ⟨c1_1_0, c1_1_1⟩ := K.c2 x1 (w.heap.size + 1) (.int .i64 b.1) (.int .i64 b.2) (by go_simp); have z1_1 : w.heap.size + 1 < w1.heap.size := World.block_lt_of_cell? w1 _ c1_1_0; have d1_1 : ¬ (w.heap.size + 1 = w1.heap.size) := (by omega); have e1_1 : ¬ (w1.heap.size = w.heap.size + 1) := (by omega); have n1_0 : ¬ (w.heap.size + 1 = w.heap.size) := (by omega); have n0_1 : ¬ (w.heap.size = w.heap.size + 1) := (by omega))
  go_wp2_with (go_at_call 41; refine K.call (by with_reducible rfl) (by with_reducible rfl) (HR.out _) ?_; rintro e w2 ⟨rfl, x2⟩; have s2 : w1.heap.size ≤ w2.heap.size := (by have h_ := x2.size; (try simp at h_); omega); have X2 := K.Ext.trans (X1) x2; obtain ⟨c2_0_0, c2_0_1⟩ := K.c2 x2 (w.heap.size) (.int .i64 a.1) (.int .i64 a.2) (by go_simp); have z2_0 : w.heap.size < w2.heap.size := World.block_lt_of_cell? w2 _ c2_0_0; have d2_0 : ¬ (w.heap.size = w2.heap.size) := (by omega); have e2_0 : ¬ (w2.heap.size = w.heap.size) := (by omega); obtain ⟨c2_1_0, c2_1_1⟩ := K.c2 x2 (w.heap.size + 1) (.int .i64 b.1) (.int .i64 b.2) (by go_simp); have z2_1 : w.heap.size + 1 < w2.heap.size := World.block_lt_of_cell? w2 _ c2_1_0; have d2_1 : ¬ (w.heap.size + 1 = w2.heap.size) := (by omega); have e2_1 : ¬ (w2.heap.size = w.heap.size + 1) := (by omega); clear c1_0_0 c1_0_1 z1_0 d1_0 e1_0 c1_1_0 c1_1_1 z1_1 d1_1 e1_1)
  refine bodyPost_ret (v := .tuple #[.int .i64 M.1, .int .i64 M.2]) (by unfold results; rw [Tryz.results24]; go_simp) rfl ⟨rfl, ?_⟩
  repeat with_reducible refine K.Ext.setCell ?_ (by dsimp only; omega) _
  exact (by repeat' (first | with_reducible exact X2 | with_reducible refine K.Ext.setCell ?_ ?_ _ | with_reducible refine K.Ext.alloc ?_ _ | with_reducible refine K.Ext.drew ?_ | (dsimp only; omega) | omega | (simp; omega)))
set_option maxRecDepth 100000 in
set_option maxHeartbeats 6400000 in
theorem impl_TransferTable (R : Z.Rl) (fr to : Int) (fs : List (Int × Int)) {l1 h1 l2 h2 lo hi : Nat} {p q v : Value} (w : World) (hmRL : R.st.length ≤ 1048576) (hRL : K.ints w l1 h1 p R.st) (hcRL : K.roomy p R.st.length) (hmRR : R.sl.length ≤ 1048576) (hRR : K.ints w l2 h2 q R.sl) (hcRR : K.roomy q R.sl.length) (hmf : fs.length ≤ 1048576) (hfs : K.recs false K.FgR w lo hi v fs) :
    Calls Tryz.prog 19 #[.agg #[.int .i64 R.ln, p, q], .int .i64 fr, .int .i64 to, v] w fun e w' => (∃ u, e = .returned (.tuple #[u, .int .i64 (Z.ttO R fr to fs).2]) ∧ K.recs false K.FgR w' w.heap.size w'.heap.size u (Z.ttO R fr to fs).1) ∧ K.Ext w w' := by
  obtain ⟨oRL, cRL, rfl, _⟩ := id hRL
  obtain ⟨oRR, cRR, rfl, _⟩ := id hRR
  obtain ⟨oF, cF, rfl, _⟩ := id hfs
  obtain ⟨it0, hi0, hz0, hz1, hz2⟩ := info_parts info_fig
  obtain ⟨c, hc⟩ : ∃ c, Z.tCode R fr to (Z.areFigs fs) = c := ⟨_, rfl⟩
  have HE : Hid (Z.ttO R fr to fs = if ¬ c = 0 then ([], c) else if 20 < fs.length then ([], 3) else (fs.map (Z.trF fr to), 0)) := Z.hide (by rw [← hc]; rfl)
  have HC : Hid (∀ W : World, K.Ext w W → Calls Tryz.prog 49 #[.agg #[.int .i64 R.ln, .slice oRL R.st.length cRL, .slice oRR R.sl.length cRR], .int .i64 fr, .int .i64 to, .slice oF fs.length cF] W fun e w'' => e = .returned (.int .i64 c) ∧ K.Ext W w'') := Z.hide (fun W hx => by rw [← hc]; exact checkTransfer_any R fr to W fs hmf (K.figs_of_recs (hfs.ext hx)) hmRL (hRL.ext hx) hcRL hmRR (hRR.ext hx) hcRR)
  obtain ⟨M, hM⟩ : ∃ M, Z.ttO R fr to fs = M := ⟨_, rfl⟩
  rw [hM] at HE ⊢
  clear hM
  go_enter Tryz.func19, Tryz.ntmps19
  go_wp2_with fail
  refine K.call (by with_reducible rfl) (by with_reducible rfl) (HC.out _ ((K.Ext.refl w).alloc _)) ?_
  rintro e w1 ⟨rfl, x1⟩
  have X1 : K.Ext w w1 := K.Ext.trans ((K.Ext.refl w).alloc _) x1
  have z1 := x1.size
  simp at z1
  by_cases h0 : c = 0
  case neg =>
    have h0' : (c == 0) = false := by simpa using h0
    rw [if_pos h0] at HE
    go_wp2_with fail
    refine bodyPost_ret (v := .tuple #[.slice none 0 0, .int .i64 c]) (by unfold results; rw [Tryz.results19]; go_simp) rfl ⟨⟨_, by rw [HE.out], by rw [HE.out]; exact K.recs_nil _ _ _⟩, X1⟩
  subst h0
  rw [if_neg (by simp)] at HE
  obtain ⟨⟨_, hfig⟩, hfr, hto⟩ := Z.tCode_zero hc
  by_cases hl : 20 < fs.length
  · have hl2 : (20 : Int) < (fs.length : Int) := by omega
    rw [if_pos hl] at HE
    go_wp2_with fail
    refine bodyPost_ret (v := .tuple #[.slice none 0 0, .int .i64 3]) (by unfold results; rw [Tryz.results19]; go_simp) rfl ⟨⟨_, by rw [HE.out], by rw [HE.out]; exact K.recs_nil _ _ _⟩, X1⟩
  rw [if_neg hl] at HE
  have hl2 : ¬ ((20 : Int) < (fs.length : Int)) := by omega
  go_wp2_with fail
  go_loopw [11, 28] (fun u i wr => ∃ k : Nat, k ≤ fs.length ∧ i = .int .i64 k ∧ Hid (wr.ownsRow (w1.heap.size) 32 2 u k (K.FgR.cells ((fs.map (Z.trF fr to)).take k))) ∧ Hid (K.Ext w1 wr) ∧ w1.heap.size < wr.heap.size) (fun _ i _ => fs.length - (intOf i).toNat)
  case atStart => exact ⟨0, Nat.zero_le _, rfl, Z.hide (K.row_lit0 (by simp) (Nat.le_refl _)), Z.hide ((K.Ext.refl _).alloc _), by simp⟩
  case round =>
    obtain ⟨k, hk, rfl, HO, HX, lz⟩ := hrel
    have FR : K.Ext w wr := K.Ext.trans X1 HX.out
    have hsh : ∃ o c, u11 = .slice o k c := by rcases HO.out.2 with ⟨h1, h2⟩ | ⟨_, _, _, h1, _⟩; exact ⟨none, 0, by rw [h1, h2]⟩; exact ⟨_, _, h1⟩
    obtain ⟨oU, cU, rfl⟩ := hsh
    have k0 : (0 : Int) ≤ (k : Int) := Int.natCast_nonneg k
    by_cases hlt : k < fs.length
    · have k1 : (k : Int) < (fs.length : Int) := by omega
      have hs_ := hfs
      obtain ⟨b, off, rfl, _, _, hcc⟩ := (K.figs_of_recs hs_).at_ (by omega)
      have c0 := FR.cell_of (hcc k hlt).1
      have c1 := FR.cell_of (hcc k hlt).2
      have lb : b < wr.heap.size := World.block_lt_of_cell? wr _ c0
      have nb1 : ¬ (b = wr.heap.size) := by omega
      have hy := Z.areFigs_at hfig k hlt
      have HS : Hid ((fs.map (Z.trF fr to)).take (k + 1) = (fs.map (Z.trF fr to)).take k ++ [Z.trF fr to (fs.getD k (0, 0))]) := Z.hide (Z.map_take_succ _ fs k hlt)
      clear hcc
      generalize fs.getD k (0, 0) = f at *
      obtain ⟨⟨f1, f2⟩, f3, f4⟩ := Z.isFig_parts hy
      have HT := Z.hide (fun W => transferFigure_any fr to f W (Z.ord_ne hfr) (Z.ord_ne hto) f1 f2 (by omega) (by omega))
      generalize Z.trF fr to f = r at *
      go_wp2_with fail
      refine K.call (by with_reducible rfl) (by with_reducible rfl) (HT.out _) ?_
      rintro e w2 ⟨rfl, x2⟩
      have z2 := x2.size
      (try simp at z2)
      have HX2 : Hid (K.Ext w1 w2) := Z.hide (K.Ext.trans (HX.out.alloc _) x2)
      have HO2 := Z.hide (K.row_ext (HO.out.alloc _) x2)
      go_wp2_with (at_builtin; refine wpList_append_lies _ rfl _ _ _ rfl (w1.heap.size) 32 it0 _ 2 16 Tryz.underlying42 hi0 hz0 hz1 hz2 rfl (by omega) (.slice oU k cU) k _ rfl (HO2.out.alloc _) ⟨w2.heap.size, 0, none⟩ 1 1 [.int .i64 r.1, .int .i64 r.2] rfl rfl (World.news_of_block (cs := #[.int .i64 r.1, .int .i64 r.2]) (t := 32) (fr := (0, 0)) (K.block_new (by simp))) (by simp [Value.oneCell']) (by omega) (by unfold maxLen; omega) (by first | omega | (simp; omega)) (by first | omega | (simp; omega)) (w2.heap.size + 1) (by simp) ?_; intro g2 gcap2 w7 hown7 hgrow7 hat7 hlt7; have HB7 : Hid (Below (w1.heap.size) w2 w7) := Z.hide (K.below_newL hgrow7 (by omega) (fun g hg => (HO2.out.lt g hg).1)); have HP7 := Z.hide hown7)
      clear hown7 hgrow7 hat7
      go_roundw
      case rel => exact ⟨k + 1, by omega, by go_num, Z.hide (by rw [HS.out, K.Rec.cells_snoc]; exact HP7.out), Z.hide (HX2.out.below.trans (HB7.out.mono (by omega))), Nat.lt_of_lt_of_le (by omega) HB7.out.size⟩
      case measure => first | (simp [intOf]; done) | (simp [intOf]; omega)
    obtain rfl : k = fs.length := by omega
    have h1 : (fs.map (Z.trF fr to)).take fs.length = fs.map (Z.trF fr to) := List.take_of_length_le (by simp)
    rw [h1] at HO
    have HR := Z.hide (K.recs.plain (K.recs_of_row HO.out (by decide)))
    go_wp2_with fail
    refine bodyPost_ret (v := .tuple #[.slice oU fs.length cU, .int .i64 0]) (by unfold results; rw [Tryz.results19]; go_simp) rfl ⟨⟨_, by rw [HE.out], by rw [HE.out]; exact HR.out.mono (by first | omega | (have h_ := (K.Ext.size (K.Ext.refl w)); omega)) (Nat.le_refl _)⟩, FR⟩
end Go.Proofs.YtimpcelbekhipaaGreat
end
section
namespace Go.Z
theorem areFigs_succ (vs : List (Int × Int)) (k : Nat) (h : k < vs.length) : areFigs (vs.take (k + 1)) = (areFigs (vs.take k) && isFig (vs.getD k (0, 0)).1 (vs.getD k (0, 0)).2) := by
  unfold areFigs; rw [List.take_add_one, List.all_append, List.getD_eq_getElem?_getD, List.getElem?_eq_getElem h]; simp
theorem tCode_fig (R : Rl) (fr to : Int) (a : Bool) : tCode R fr to a = if a then tCode R fr to true else 1 := by
  cases a
  · unfold tCode; rw [Bool.and_false, if_pos rfl]; rfl
  · rfl
end Go.Z
namespace Go.Proofs.YtimpcelbekhipaaGreat
open Go.RowKit
set_option maxRecDepth 100000 in
set_option maxHeartbeats 6400000 in
theorem spec_TransferTable (R : Z.Rl) (fr to : Int) (fs : List (Int × Int)) {l1 h1 l2 h2 lo hi : Nat} {p q v : Value} (w : World) (hmRL : R.st.length ≤ 1048576) (hRL : K.ints w l1 h1 p R.st) (hcRL : K.roomy p R.st.length) (hmRR : R.sl.length ≤ 1048576) (hRR : K.ints w l2 h2 q R.sl) (hcRR : K.roomy q R.sl.length) (hmf : fs.length ≤ 1048576) (hfs : K.recs false K.FgR w lo hi v fs) :
    Calls Tryz.prog 20 #[.agg #[.int .i64 R.ln, p, q], .int .i64 fr, .int .i64 to, v] w fun e w' => (∃ u, e = .returned (.tuple #[u, .int .i64 (Z.ttO R fr to fs).2]) ∧ K.recs false K.FgR w' w.heap.size w'.heap.size u (Z.ttO R fr to fs).1) ∧ K.Ext w w' := by
  obtain ⟨oRL, cRL, rfl, _⟩ := id hRL
  obtain ⟨oRR, cRR, rfl, _⟩ := id hRR
  obtain ⟨oF, cF, rfl, _⟩ := id hfs
  obtain ⟨it0, hi0, hz0, hz1, hz2⟩ := info_parts info_fig
  obtain ⟨c, hc⟩ : ∃ c, Z.tCode R fr to (Z.areFigs fs) = c := ⟨_, rfl⟩
  obtain ⟨c0, hc0⟩ : ∃ c0, Z.tCode R fr to true = c0 := ⟨_, rfl⟩
  have HCC : Hid (c = if Z.areFigs fs then c0 else 1) := Z.hide (by rw [← hc, ← hc0]; exact Z.tCode_fig R fr to _)
  have HE : Hid (Z.ttO R fr to fs = if ¬ c = 0 then ([], c) else if 20 < fs.length then ([], 3) else (fs.map (Z.trF fr to), 0)) := Z.hide (by rw [← hc]; rfl)
  have HC : Hid (∀ W : World, K.Ext w W → Calls Tryz.prog 51 #[.agg #[.int .i64 R.ln, .slice oRL R.st.length cRL, .slice oRR R.sl.length cRR], .int .i64 fr, .int .i64 to, .agg #[.int .i64 1000, .int .i64 0]] W fun e w'' => e = .returned (.int .i64 c0) ∧ K.Ext W w'') := Z.hide (fun W hx => by rw [← hc0]; exact l17Code_any R fr to (1000, 0) W hmRL (hRL.ext hx) hcRL hmRR (hRR.ext hx) hcRR)
  obtain ⟨M, hM⟩ : ∃ M, Z.ttO R fr to fs = M := ⟨_, rfl⟩
  rw [hM] at HE ⊢
  clear hM hc0
  go_enter Tryz.func20, Tryz.ntmps20
  go_wp2_with fail
  refine K.call (by with_reducible rfl) (by with_reducible rfl) (HC.out _ ((K.Ext.refl w).alloc _)) ?_
  rintro e w1 ⟨rfl, x1⟩
  have X1 : K.Ext w w1 := K.Ext.trans ((K.Ext.refl w).alloc _) x1
  have z1 := x1.size
  simp at z1
  go_wp2_with fail
  go_loopw [10, 11] (fun x i wr => ∃ (k : Nat) (y : Int), k ≤ fs.length ∧ i = .int .i64 k ∧ x = .int .i64 y ∧ Hid (y = if Z.areFigs (fs.take k) then c0 else 1) ∧ Hid (K.Ext w1 wr)) (fun _ i _ => fs.length - (intOf i).toNat)
  case atStart => exact ⟨0, c0, Nat.zero_le _, rfl, rfl, Z.hide rfl, Z.hide (K.Ext.refl _)⟩
  case round =>
    obtain ⟨k, y, hk, rfl, rfl, HY, HX0⟩ := hrel
    have FR : K.Ext w wr := K.Ext.trans X1 HX0.out
    have k0 : (0 : Int) ≤ (k : Int) := Int.natCast_nonneg k
    by_cases hlt : k < fs.length
    · have k1 : (k : Int) < (fs.length : Int) := by omega
      have hs_ := hfs
      obtain ⟨b, off, rfl, _, _, hcc⟩ := (K.figs_of_recs hs_).at_ (by omega)
      have c0_ := FR.cell_of (hcc k hlt).1
      have c1_ := FR.cell_of (hcc k hlt).2
      have HS := Z.hide (Z.areFigs_succ fs k hlt)
      clear hcc
      generalize fs.getD k (0, 0) = f at *
      have HG := Z.hide (fun W => spec_IsFigure f.1 f.2 W)
      cases hf : Z.isFig f.1 f.2
      · rw [hf] at HG HS
        go_wp2_with fail
        refine K.call (by with_reducible rfl) (by with_reducible rfl) (HG.out _) ?_
        rintro e w2 ⟨rfl, x2⟩
        go_wp2_with fail
        go_roundw
        case rel => exact ⟨k + 1, 1, by omega, by go_num, rfl, Z.hide (by rw [HS.out, Bool.and_false]; rfl), Z.hide (K.Ext.trans HX0.out x2)⟩
        case measure => simp [intOf]; omega
      · rw [hf] at HG HS
        go_wp2_with fail
        refine K.call (by with_reducible rfl) (by with_reducible rfl) (HG.out _) ?_
        rintro e w2 ⟨rfl, x2⟩
        go_wp2_with fail
        go_roundw
        case rel => exact ⟨k + 1, y, by omega, by go_num, rfl, Z.hide (by rw [HS.out, Bool.and_true]; exact HY.out), Z.hide (K.Ext.trans HX0.out x2)⟩
        case measure => simp [intOf]; omega
    obtain rfl : k = fs.length := by omega
    rw [List.take_length, ← HCC.out] at HY
    obtain rfl : y = c := HY.out
    by_cases h0 : y = 0
    case neg =>
      have h0' : (y == 0) = false := by simpa using h0
      rw [if_pos h0] at HE
      go_wp2_with fail
      refine bodyPost_ret (v := .tuple #[.slice none 0 0, .int .i64 y]) (by unfold results; rw [Tryz.results20]; go_simp) rfl ⟨⟨_, by rw [HE.out], by rw [HE.out]; exact K.recs_nil _ _ _⟩, FR⟩
    subst h0
    rw [if_neg (by simp)] at HE
    obtain ⟨⟨_, hfig⟩, hfr, hto⟩ := Z.tCode_zero hc
    by_cases hl : 20 < fs.length
    · have hl2 : (20 : Int) < (fs.length : Int) := by omega
      rw [if_pos hl] at HE
      go_wp2_with fail
      refine bodyPost_ret (v := .tuple #[.slice none 0 0, .int .i64 3]) (by unfold results; rw [Tryz.results20]; go_simp) rfl ⟨⟨_, by rw [HE.out], by rw [HE.out]; exact K.recs_nil _ _ _⟩, FR⟩
    rw [if_neg hl] at HE
    have hl2 : ¬ ((20 : Int) < (fs.length : Int)) := by omega
    obtain ⟨wo, rfl⟩ : ∃ wo : World, wo = wr := ⟨_, rfl⟩
    have lzo := FR.size
    go_wp2_with fail
    go_loopw [12, 13] (fun u i wr => ∃ k : Nat, k ≤ fs.length ∧ i = .int .i64 k ∧ Hid (wr.ownsRow (wo.heap.size) 32 2 u k (K.FgR.cells ((fs.map (Z.trF fr to)).take k))) ∧ Hid (K.Ext wo wr) ∧ wo.heap.size < wr.heap.size) (fun _ i _ => fs.length - (intOf i).toNat)
    case atStart => exact ⟨0, Nat.zero_le _, rfl, Z.hide (K.row_lit0 (by simp) (Nat.le_refl _)), Z.hide ((K.Ext.refl _).alloc _), by simp⟩
    case round =>
      obtain ⟨k, hk, rfl, HO, HX, lz⟩ := hrel
      have FR := K.Ext.trans FR HX.out
      have hsh : ∃ o c, u12 = .slice o k c := by rcases HO.out.2 with ⟨h1, h2⟩ | ⟨_, _, _, h1, _⟩; exact ⟨none, 0, by rw [h1, h2]⟩; exact ⟨_, _, h1⟩
      obtain ⟨oU, cU, rfl⟩ := hsh
      have k0 : (0 : Int) ≤ (k : Int) := Int.natCast_nonneg k
      by_cases hlt : k < fs.length
      · have k1 : (k : Int) < (fs.length : Int) := by omega
        have hs_ := hfs
        obtain ⟨b, off, rfl, _, _, hcc⟩ := (K.figs_of_recs hs_).at_ (by omega)
        have c0 := FR.cell_of (hcc k hlt).1
        have c1 := FR.cell_of (hcc k hlt).2
        have lb : b < wr.heap.size := World.block_lt_of_cell? wr _ c0
        have nb1 : ¬ (b = wr.heap.size) := by omega
        have hy := Z.areFigs_at hfig k hlt
        have HS : Hid ((fs.map (Z.trF fr to)).take (k + 1) = (fs.map (Z.trF fr to)).take k ++ [Z.trF fr to (fs.getD k (0, 0))]) := Z.hide (Z.map_take_succ _ fs k hlt)
        clear hcc
        generalize fs.getD k (0, 0) = f at *
        obtain ⟨⟨f1, f2⟩, f3, f4⟩ := Z.isFig_parts hy
        have HT := Z.hide (fun W => l17Read_any fr to f W (Z.ord_ne hfr) (Z.ord_ne hto) f1 f2 (by omega) (by omega))
        generalize Z.trF fr to f = r at *
        go_wp2_with fail
        refine K.call (by with_reducible rfl) (by with_reducible rfl) (HT.out _) ?_
        rintro e w2 ⟨rfl, x2⟩
        have z2 := x2.size
        (try simp at z2)
        have HX2 : Hid (K.Ext wo w2) := Z.hide (K.Ext.trans HX.out x2)
        have HO2 := Z.hide (K.row_ext HO.out x2)
        go_wp2_with (at_builtin; refine wpList_append_lies _ rfl _ _ _ rfl (wo.heap.size) 32 it0 _ 2 16 Tryz.underlying42 hi0 hz0 hz1 hz2 rfl (by omega) (.slice oU k cU) k _ rfl (HO2.out.alloc _) ⟨w2.heap.size, 0, none⟩ 1 1 [.int .i64 r.1, .int .i64 r.2] rfl rfl (World.news_of_block (cs := #[.int .i64 r.1, .int .i64 r.2]) (t := 32) (fr := (0, 0)) (K.block_new (by simp))) (by simp [Value.oneCell']) (by omega) (by unfold maxLen; omega) (by first | omega | (simp; omega)) (by first | omega | (simp; omega)) (w2.heap.size + 1) (by simp) ?_; intro g2 gcap2 w7 hown7 hgrow7 hat7 hlt7; have HB7 : Hid (Below (wo.heap.size) w2 w7) := Z.hide (K.below_newL hgrow7 (by omega) (fun g hg => (HO2.out.lt g hg).1)); have HP7 := Z.hide hown7)
        clear hown7 hgrow7 hat7
        go_roundw
        case rel => exact ⟨k + 1, by omega, by go_num, Z.hide (by rw [HS.out, K.Rec.cells_snoc]; exact HP7.out), Z.hide (HX2.out.below.trans (HB7.out.mono (by omega))), Nat.lt_of_lt_of_le (by omega) HB7.out.size⟩
        case measure => first | (simp [intOf]; done) | (simp [intOf]; omega)
      obtain rfl : k = fs.length := by omega
      have h1 : (fs.map (Z.trF fr to)).take fs.length = fs.map (Z.trF fr to) := List.take_of_length_le (by simp)
      rw [h1] at HO
      have HR := Z.hide (K.recs.plain (K.recs_of_row HO.out (by decide)))
      go_wp2_with fail
      refine bodyPost_ret (v := .tuple #[.slice oU fs.length cU, .int .i64 0]) (by unfold results; rw [Tryz.results20]; go_simp) rfl ⟨⟨_, by rw [HE.out], by rw [HE.out]; exact HR.out.mono (by first | omega | (have h_ := (K.Ext.size (K.Ext.refl w)); omega)) (Nat.le_refl _)⟩, FR⟩
end Go.Proofs.YtimpcelbekhipaaGreat
end
section
namespace Go.Proofs.YtimpcelbekhipaaGreat
open Go.RowKit
set_option maxHeartbeats 1600000 in
theorem likeFigures_same (xs : List (Int × Int)) (lo hi lo' hi' : Nat) (v v' : Value) (w : World) (hm : xs.length ≤ 1048576) (h : K.recs false K.FgR w lo hi v xs) (h' : K.recs false K.FgR w lo' hi' v' xs) :
    Calls Tryz.prog 21 #[v, v'] w fun e w' => e = .returned (.bool true) ∧ K.Ext w w' := by
  obtain ⟨o, cap, rfl, _⟩ := id h
  obtain ⟨o', cap', rfl, _⟩ := id h'
  have HH := Z.hide h
  have HH' := Z.hide h'
  clear h h'
  go_enter Tryz.func21, Tryz.ntmps21
  go_wp2
  go_loopw [5] (fun i wr => ∃ k : Nat, k ≤ xs.length ∧ i = .int .i64 k ∧ Hid (K.Ext w wr)) (fun i _ => xs.length - (intOf i).toNat)
  case atStart => exact ⟨0, Nat.zero_le _, rfl, Z.hide (K.Ext.refl _)⟩
  case round =>
    obtain ⟨k, hk, rfl, HX⟩ := hrel
    by_cases hlt : k < xs.length
    · obtain ⟨b, off, rfl, _, _, hc, _⟩ := K.recs_at HH.out (by omega)
      obtain ⟨b', off', rfl, _, _, hc', _⟩ := K.recs_at HH'.out (by omega)
      have hc0 : wr.cell? ⟨b, off + k * 2, none⟩ = some (.int .i64 (xs[k]'hlt).1) := HX.out.cell_of (hc k hlt 0 (by decide))
      have hc1 : wr.cell? ⟨b, off + k * 2 + 1, none⟩ = some (.int .i64 (xs[k]'hlt).2) := HX.out.cell_of (hc k hlt 1 (by decide))
      have hd0 : wr.cell? ⟨b', off' + k * 2, none⟩ = some (.int .i64 (xs[k]'hlt).1) := HX.out.cell_of (hc' k hlt 0 (by decide))
      have hd1 : wr.cell? ⟨b', off' + k * 2 + 1, none⟩ = some (.int .i64 (xs[k]'hlt).2) := HX.out.cell_of (hc' k hlt 1 (by decide))
      clear hc hc'
      generalize (xs[k]'hlt) = x at *
      obtain ⟨d, m⟩ := x
      dsimp only at hc0 hc1 hd0 hd1
      have i0 : (0 : Int) ≤ (k : Int) := Int.natCast_nonneg k
      have i1 : (k : Int) < (xs.length : Int) := by omega
      have HX0 := HX
      go_wp2_with fail
      refine K.wp_region_ext (by kernel_rfl) (by kernel_rfl) ?_
      iterate 3
        apply K.qcons
        · rfl
        · intro w' hw'; unfold Oper.quietAt; go_simp; first | done | rfl | exact ⟨rfl, rfl⟩
        simp only [Act.put, List.setIfInBounds_toArray, List.set]
      apply K.qcons
      · rfl
      · intro w' hw'
        have e0 := hw'.cell_of hc0
        have e1 := hw'.cell_of hc1
        unfold Oper.quietAt
        go_simp
        first | done | rfl | exact ⟨rfl, rfl⟩
      simp only [Act.put, List.setIfInBounds_toArray, List.set]
      iterate 3
        apply K.qcons
        · rfl
        · intro w' hw'; unfold Oper.quietAt; go_simp; first | done | rfl | exact ⟨rfl, rfl⟩
        simp only [Act.put, List.setIfInBounds_toArray, List.set]
      apply K.qcons
      · rfl
      · intro w' hw'
        have e0 := hw'.cell_of hd0
        have e1 := hw'.cell_of hd1
        unfold Oper.quietAt
        go_simp
        first | done | rfl | exact ⟨rfl, rfl⟩
      simp only [Act.put, List.setIfInBounds_toArray, List.set]
      apply K.qcons
      · rfl
      · intro w' hw'; unfold Oper.quietAt; go_simp; first | done | rfl | exact ⟨rfl, rfl⟩
      simp only [Act.put, List.setIfInBounds_toArray, List.set]
      refine wpQuiet_nil ?_
      intro w1 hx1
      go_wp2
      go_roundw
      case rel => exact ⟨k + 1, by omega, by go_num, Z.hide (HX.out.trans (by first | exact hx1 | exact hx1.drew))⟩
      case measure => simp [intOf]; omega
    · obtain rfl : k = xs.length := by omega
      go_wp2
      go_ret
      exact ⟨rfl, HX.out⟩
end Go.Proofs.YtimpcelbekhipaaGreat
end
section
namespace Go.Z
def Ln (n : Int) : Int := (figLog (atN n)).1
def Hn (n : Int) : Int := (figLog (atN n)).2
theorem L_step (n : Int) : Ln n + 40 ≤ Ln (n + 1) ∧ Hn n + 40 ≤ Hn (n + 1) := figLog_step n
theorem L_mono {n m : Int} (h : n ≤ m) : Ln n ≤ Ln m ∧ Hn n ≤ Hn m := figLog_mono h
/-- a logarithm of digits -/
theorem log_in {d : Int} (h1 : 1000 ≤ d) (h2 : d ≤ 9999) : 0 ≤ (logOf (d * 100000)).1 ∧ (logOf (d * 100000)).1 ≤ (logOf (d * 100000)).2 ∧ (logOf (d * 100000)).2 ≤ (logOf (d * 100000)).1 + 2 ∧ (logOf (d * 100000)).2 ≤ 1048531 := by
  obtain ⟨k, hk, k1, k2, hl⟩ := logOf_at h1 h2
  have c := width k k1 k2
  have m := figLog_mono (n := d - 1000) (m := 8999) (by omega)
  have e1 : atN (d - 1000) = (d, 0) := by unfold atN; rw [Int.emod_eq_of_lt (by omega) (by omega), Int.ediv_eq_zero_of_lt (by omega) (by omega)]; exact Prod.ext (by dsimp only; omega) rfl
  have e2 : atN 8999 = (9999, 0) := rfl
  rw [e1, e2] at m
  unfold figLog at m
  have e3 : ((9999 : Int), (0 : Int)).1 * 100000 = ((9999 : Nat) : Int) * 100000 := rfl
  rw [e3, logOf_LL 9999, ends.2.2.1, ends.2.2.2] at m
  dsimp only at m
  rw [hl] at m ⊢
  dsimp only at m ⊢
  omega
theorem fig_at {f : Int × Int} (h1 : 1000 ≤ f.1) (h2 : f.1 ≤ 9999) : atN (9000 * f.2 + (f.1 - 1000)) = f := by
  rw [atN_at (by omega) (by omega)]
  exact Prod.ext (by dsimp only; omega) rfl
theorem L_fig (f : Int × Int) (h1 : 1000 ≤ f.1) (h2 : f.1 ≤ 9999) : Ln (9000 * f.2 + (f.1 - 1000)) = (logOf (f.1 * 100000)).1 + f.2 * 1048576 ∧ Hn (9000 * f.2 + (f.1 - 1000)) = (logOf (f.1 * 100000)).2 + f.2 * 1048576 := by
  unfold Ln Hn
  rw [fig_at h1 h2]
  exact ⟨rfl, rfl⟩
theorem L_at (n : Int) : Ln n = (logOf ((1000 + n % 9000) * 100000)).1 + n / 9000 * 1048576 ∧ Hn n = (logOf ((1000 + n % 9000) * 100000)).2 + n / 9000 * 1048576 := ⟨rfl, rfl⟩
theorem LH (n : Int) : Ln n ≤ Hn n ∧ Hn n ≤ Ln n + 2 := by
  obtain ⟨a, b⟩ := L_at n
  have c := log_in (d := 1000 + n % 9000) (by omega) (by omega)
  rw [a, b]; omega
theorem L_shift (n k : Int) : Ln (n + 9000 * k) = Ln n + k * 1048576 ∧ Hn (n + 9000 * k) = Hn n + k * 1048576 := by
  obtain ⟨a, b⟩ := L_at n
  obtain ⟨c, d⟩ := L_at (n + 9000 * k)
  rw [show (n + 9000 * k) % 9000 = n % 9000 by omega, show (n + 9000 * k) / 9000 = n / 9000 + k by omega] at c d
  rw [a, b, c, d]
  constructor <;> rw [Int.add_mul] <;> omega
theorem L_0 : Ln 0 = 0 ∧ Hn 0 = 1 := by
  obtain ⟨a, b⟩ := L_at 0
  have e : ((1000 + (0 : Int) % 9000) * 100000) = ((1000 : Nat) : Int) * 100000 := rfl
  rw [e, logOf_LL, ends.1, ends.2.1] at a b
  rw [a, b]; exact ⟨rfl, rfl⟩
theorem mids : LL 2000 = 315652 ∧ HH 2000 ≤ 315654 ∧ LL 4000 = 631305 ∧ HH 4000 ≤ 631307 := ⟨by kernel_rfl, Nat.le_of_ble_eq_true (by kernel_rfl), by kernel_rfl, Nat.le_of_ble_eq_true (by kernel_rfl)⟩
/-- no step is half as wide as a decade -/
theorem L_stepU (n : Int) : Hn (n + 1) ≤ Ln n + 420000 := by
  obtain ⟨a, b⟩ := L_at n
  obtain ⟨m1, m2, m3, m4⟩ := mids
  have s1 := L_shift 1000 (n / 9000)
  have s3 := L_shift 3000 (n / 9000)
  have s9 := L_shift 0 (n / 9000 + 1)
  have s0 := L_shift 0 (n / 9000)
  have e1 : Ln 1000 = ((LL 2000 : Nat) : Int) ∧ Hn 1000 = ((HH 2000 : Nat) : Int) := by
    have h := L_at 1000
    have e : ((1000 + (1000 : Int) % 9000) * 100000) = ((2000 : Nat) : Int) * 100000 := rfl
    rw [e, logOf_LL] at h
    exact ⟨by rw [h.1]; dsimp only; omega, by rw [h.2]; dsimp only; omega⟩
  have e3 : Ln 3000 = ((LL 4000 : Nat) : Int) ∧ Hn 3000 = ((HH 4000 : Nat) : Int) := by
    have h := L_at 3000
    have e : ((1000 + (3000 : Int) % 9000) * 100000) = ((4000 : Nat) : Int) * 100000 := rfl
    rw [e, logOf_LL] at h
    exact ⟨by rw [h.1]; dsimp only; omega, by rw [h.2]; dsimp only; omega⟩
  have z := L_0
  have hk : n / 9000 * 9000 + n % 9000 = n := by omega
  generalize n / 9000 = k at *
  rw [Int.add_mul] at s9
  by_cases c1 : n % 9000 < 1000
  · have u := L_mono (n := n + 1) (m := 1000 + 9000 * k) (by omega)
    have v := L_mono (n := 0 + 9000 * k) (m := n) (by omega)
    omega
  by_cases c2 : n % 9000 < 3000
  · have u := L_mono (n := n + 1) (m := 3000 + 9000 * k) (by omega)
    have v := L_mono (n := 1000 + 9000 * k) (m := n) (by omega)
    omega
  · have u := L_mono (n := n + 1) (m := 0 + 9000 * (k + 1)) (by omega)
    have v := L_mono (n := 3000 + 9000 * k) (m := n) (by omega)
    omega
/-! points -/
def kS (s t : Int) : Int := if s = 1 then t / 2 else if s = 2 then t / 3 else if s = 3 then -(t + 1) else t
theorem pt_fig {s : Int} (hs : s = 0 ∨ s = 1 ∨ s = 2 ∨ s = 3) {f : Int × Int} (h1 : 1000 ≤ f.1) (h2 : f.1 ≤ 9999) :
    (Ln (9000 * f.2 + (f.1 - 1000)) - 2 ≤ ordS s * (ptS s f + kS s f.2 * 1048576) ∧ ordS s * (ptS s f + kS s f.2 * 1048576) ≤ Hn (9000 * f.2 + (f.1 - 1000)) + 2) ∧ 0 ≤ ptS s f ∧ ptS s f ≤ 1048576 := by
  obtain ⟨e1, e2⟩ := L_fig f h1 h2
  have li := log_in h1 h2
  rw [e1, e2]
  unfold ptS posS figLog
  dsimp only
  generalize logOf (f.1 * 100000) = l at *
  rcases hs with rfl | rfl | rfl | rfl
  · rw [if_neg (by decide), if_neg (by decide), if_neg (by decide), show ordS 0 = 1 from rfl, show kS 0 f.2 = f.2 from rfl]
    dsimp only
    have a := fl2 (l.1 + 0 * 1048576 + (l.2 + 0 * 1048576))
    omega
  · rw [if_pos rfl, show ordS 1 = 2 from rfl, show kS 1 f.2 = f.2 / 2 from rfl]
    dsimp only
    have b := fl2 (l.1 + f.2 % 2 * 1048576)
    have c := cl2 (l.2 + f.2 % 2 * 1048576)
    have a := fl2 (fl (l.1 + f.2 % 2 * 1048576) 2 + cl (l.2 + f.2 % 2 * 1048576) 2)
    omega
  · rw [if_neg (by decide), if_pos rfl, show ordS 2 = 3 from rfl, show kS 2 f.2 = f.2 / 3 from rfl]
    dsimp only
    have b := fl3 (l.1 + f.2 % 3 * 1048576)
    have c := cl3 (l.2 + f.2 % 3 * 1048576)
    have a := fl2 (fl (l.1 + f.2 % 3 * 1048576) 3 + cl (l.2 + f.2 % 3 * 1048576) 3)
    omega
  · rw [if_neg (by decide), if_neg (by decide), if_pos rfl, show ordS 3 = -1 from rfl, show kS 3 f.2 = -(f.2 + 1) from rfl]
    dsimp only
    have a := fl2 (1048576 - (l.2 + 0 * 1048576) + (1048576 - (l.1 + 0 * 1048576)))
    omega
def k0 (s : Int) : Int := if s = 3 then -1 else 0
theorem pt_on {s n : Int} (hs : s = 0 ∨ s = 1 ∨ s = 2 ∨ s = 3) (h0 : 0 ≤ n) (h1 : n < 9000 * decS s) :
    Ln n - 2 ≤ ordS s * (pN s n + k0 s * 1048576) ∧ ordS s * (pN s n + k0 s * 1048576) ≤ Hn n + 2 := by
  have d := atN_digits n
  have a := (pt_fig (f := atN n) hs d.1 d.2).1
  have e : 9000 * (atN n).2 + ((atN n).1 - 1000) = n := by unfold atN; dsimp only; omega
  have k : kS s (atN n).2 = k0 s := by
    have e2 : (atN n).2 = n / 9000 := rfl
    rw [e2]
    rcases hs with rfl | rfl | rfl | rfl
    · rw [show decS 0 = 1 from rfl] at h1; show n / 9000 = 0; omega
    · rw [show decS 1 = 2 from rfl] at h1; show n / 9000 / 2 = 0; omega
    · rw [show decS 2 = 3 from rfl] at h1; show n / 9000 / 3 = 0; omega
    · rw [show decS 3 = 1 from rfl] at h1; show -(n / 9000 + 1) = -1; omega
  rw [e, k] at a
  exact a
/-- a point is between the neighbours of what is read there -/
theorem read_near {s p n : Int} (hs : s = 0 ∨ s = 1 ∨ s = 2 ∨ s = 3) (p0 : 0 ≤ p) (p1 : p ≤ 1048576) (h : IsBest (pN s) p 0 (9000 * decS s) n) :
    Ln (n - 1) - 2 ≤ ordS s * (p + k0 s * 1048576) ∧ ordS s * (p + k0 s * 1048576) ≤ Hn (n + 1) + 2 := by
  obtain ⟨n0, n1, hb⟩ := h
  obtain ⟨fa, ok⟩ := okF_of hs
  have mono := pN_mono ok
  have up : n + 1 < 9000 * decS s → ordS s * (p + k0 s * 1048576) ≤ ordS s * (pN s (n + 1) + k0 s * 1048576) := fun hm => by
    have q := hb (n + 1) (by omega) hm
    unfold nearer ab2 at q
    rcases mono with ⟨f1, m⟩ | ⟨f1, m⟩
    · have g := m n (n + 1) n0 (by omega) hm
      have : p ≤ pN s (n + 1) := by split at q <;> split at q <;> omega
      rcases ok with ⟨_, hs'⟩ | ⟨f2, _⟩
      · rcases hs' with rfl | rfl | rfl
        · show 1 * _ ≤ 1 * _; omega
        · show 2 * _ ≤ 2 * _; omega
        · show 3 * _ ≤ 3 * _; omega
      · rw [f1] at f2; cases f2
    · have g := m n (n + 1) n0 (by omega) hm
      have : pN s (n + 1) ≤ p := by split at q <;> split at q <;> omega
      rcases ok with ⟨f2, _⟩ | ⟨_, rfl⟩
      · rw [f1] at f2; cases f2
      · show -1 * _ ≤ -1 * _; omega
  have dn : 0 ≤ n - 1 → ordS s * (pN s (n - 1) + k0 s * 1048576) ≤ ordS s * (p + k0 s * 1048576) := fun hm => by
    have q := hb (n - 1) hm (by omega)
    unfold nearer ab2 at q
    rcases mono with ⟨f1, m⟩ | ⟨f1, m⟩
    · have g := m (n - 1) n hm (by omega) n1
      have : pN s (n - 1) ≤ p := by split at q <;> split at q <;> omega
      rcases ok with ⟨_, hs'⟩ | ⟨f2, _⟩
      · rcases hs' with rfl | rfl | rfl
        · show 1 * _ ≤ 1 * _; omega
        · show 2 * _ ≤ 2 * _; omega
        · show 3 * _ ≤ 3 * _; omega
      · rw [f1] at f2; cases f2
    · have g := m (n - 1) n hm (by omega) n1
      have : p ≤ pN s (n - 1) := by split at q <;> split at q <;> omega
      rcases ok with ⟨f2, _⟩ | ⟨_, rfl⟩
      · rw [f1] at f2; cases f2
      · show -1 * _ ≤ -1 * _; omega
  constructor
  · by_cases hm : 0 ≤ n - 1
    · have a := pt_on hs hm (by omega)
      have := dn hm
      omega
    · obtain rfl : n = 0 := by omega
      have a := L_mono (n := 0 - 1) (m := 0) (by omega)
      have z := L_0
      rcases hs with rfl | rfl | rfl | rfl
      · show _ ≤ 1 * (p + 0 * 1048576); omega
      · show _ ≤ 2 * (p + 0 * 1048576); omega
      · show _ ≤ 3 * (p + 0 * 1048576); omega
      · show _ ≤ -1 * (p + -1 * 1048576); omega
  · by_cases hm : n + 1 < 9000 * decS s
    · have a := pt_on hs (by omega) hm
      have := up hm
      omega
    · have z := L_0
      rcases hs with rfl | rfl | rfl | rfl
      · rw [show decS 0 = 1 from rfl] at hm n1
        obtain rfl : n = 8999 := by omega
        have a := L_shift 0 1
        show 1 * (p + 0 * 1048576) ≤ Hn (0 + 9000 * 1) + 2; omega
      · rw [show decS 1 = 2 from rfl] at hm n1
        obtain rfl : n = 17999 := by omega
        have a := L_shift 0 2
        show 2 * (p + 0 * 1048576) ≤ Hn (0 + 9000 * 2) + 2; omega
      · rw [show decS 2 = 3 from rfl] at hm n1
        obtain rfl : n = 26999 := by omega
        have a := L_shift 0 3
        show 3 * (p + 0 * 1048576) ≤ Hn (0 + 9000 * 3) + 2; omega
      · rw [show decS 3 = 1 from rfl] at hm n1
        obtain rfl : n = 8999 := by omega
        have a := L_shift 0 1
        show -1 * (p + -1 * 1048576) ≤ Hn (0 + 9000 * 1) + 2; omega
theorem best_ex (P : Int → Int) (t : Int) : ∀ k : Nat, ∃ n, IsBest P t 0 ((k : Int) + 1) n
  | 0 => ⟨0, Int.le_refl _, by omega, fun m h1 h2 => (show m = 0 by omega) ▸ nearer_refl _ _ _⟩
  | k + 1 => by
    obtain ⟨n, h1, h2, h3⟩ := best_ex P t k
    rcases nearer_total P t n ((k : Int) + 1) with h | h
    · refine ⟨n, h1, by omega, fun m m1 m2 => ?_⟩
      by_cases c : m < (k : Int) + 1
      · exact h3 m m1 c
      · obtain rfl : m = (k : Int) + 1 := by omega
        exact h
    · refine ⟨(k : Int) + 1, by omega, by omega, fun m m1 m2 => ?_⟩
      by_cases c : m < (k : Int) + 1
      · exact nearer_trans h (h3 m m1 c)
      · obtain rfl : m = (k : Int) + 1 := by omega
        exact nearer_refl _ _ _
theorem rdN_best (s t : Int) : IsBest (pN s) t 0 (9000 * decS s) (rdN s t) := by
  have d := decS_bd s
  obtain ⟨n, hn⟩ := best_ex (pN s) t (9000 * decS s - 1).toNat
  rw [show (((9000 * decS s - 1).toNat : Nat) : Int) + 1 = 9000 * decS s by omega] at hn
  rw [rdN_eq hn]
  exact hn
/-- the exact power and the point, times the order -/
theorem target {fr to : Int} (hf : fr = 0 ∨ fr = 1 ∨ fr = 2 ∨ fr = 3) (ht : to = 0 ∨ to = 1 ∨ to = 2 ∨ to = 3) {l1 l2 q : Int} (hl : l1 ≤ l2 ∧ l2 ≤ l1 + 2) (hq : l1 - 2 ≤ ordS fr * q ∧ ordS fr * q ≤ l2 + 2) :
    ((scaleD (l1, l2) (powS fr to).1 (powS fr to).2).1 - 8 ≤ ordS to * q ∧ ordS to * q ≤ (scaleD (l1, l2) (powS fr to).1 (powS fr to).2).2 + 8) ∧
      (scaleD (l1, l2) (powS fr to).1 (powS fr to).2).1 ≤ (scaleD (l1, l2) (powS fr to).1 (powS fr to).2).2 ∧ (scaleD (l1, l2) (powS fr to).1 (powS fr to).2).2 ≤ (scaleD (l1, l2) (powS fr to).1 (powS fr to).2).1 + 8 := by
  unfold scaleD cl
  have key : ∀ (a b n d : Int), ordS fr = a → ordS to = b → powS fr to = (n, d) → 0 < d → (d * b = n * a) → (d = 1 ∨ d = 2 ∨ d = 3) → (n = 1 ∨ n = 2 ∨ n = 3 ∨ n = -1 ∨ n = -2 ∨ n = -3) → (a = 1 ∨ a = 2 ∨ a = 3 ∨ a = -1) → (b = 1 ∨ b = 2 ∨ b = 3 ∨ b = -1) → (a = d ∨ (a = -1 ∧ d = 1)) →
      ((fl (min (l1 * n) (l2 * n)) d - 8 ≤ b * q ∧ b * q ≤ -(fl (-(max (l1 * n) (l2 * n))) d) + 8) ∧ fl (min (l1 * n) (l2 * n)) d ≤ -(fl (-(max (l1 * n) (l2 * n))) d) ∧ -(fl (-(max (l1 * n) (l2 * n))) d) ≤ fl (min (l1 * n) (l2 * n)) d + 8) := by
    intro a b n d ea eb _ hd e1 hd3 hn ha hb had
    rw [ea] at hq
    have s1 := fl_spec (min (l1 * n) (l2 * n)) d hd
    have s2 := fl_spec (-(max (l1 * n) (l2 * n))) d hd
    generalize fl (min (l1 * n) (l2 * n)) d = x at *
    generalize fl (-(max (l1 * n) (l2 * n))) d = y at *
    rcases ha with rfl | rfl | rfl | rfl <;> rcases hd3 with rfl | rfl | rfl <;> (try omega) <;> rcases hn with rfl | rfl | rfl | rfl | rfl | rfl <;> (try omega) <;> rcases hb with rfl | rfl | rfl | rfl <;> omega
  have hp : ∀ n d : Int, powS fr to = (n, d) → (powS fr to).1 = n ∧ (powS fr to).2 = d := fun n d h => by rw [h]; exact ⟨rfl, rfl⟩
  rcases hf with rfl | rfl | rfl | rfl <;> rcases ht with rfl | rfl | rfl | rfl <;> exact key _ _ _ _ rfl rfl rfl (by decide) (by decide) (by decide) (by decide) (by decide) (by decide) (by decide)
theorem tens_at {g t : Int} (h1 : -1048576 < g - 2097152 * t) (h2 : g - 2097152 * t < 1048576) : tenS g = t := by
  obtain ⟨t1, t2⟩ := fl_spec g 2097152 (by decide)
  unfold tenS; split <;> omega
theorem atN_shift (n k : Int) : atN (n - 9000 * k) = ((atN n).1, (atN n).2 - k) := by
  unfold atN
  rw [show (n - 9000 * k) % 9000 = n % 9000 by omega, show (n - 9000 * k) / 9000 = n / 9000 - k by omega]
theorem figOr_at {f : Int × Int} (h : (figOr f).2 = 0) : (figOr f).1 = f := by
  unfold figOr at h ⊢
  cases hf : isFig f.1 f.2
  · rw [hf, if_neg (by decide)] at h; exact absurd h (by decide)
  · rfl
/-- the figure that a transfer yields is next to the exact power -/
theorem cu_near {R : Rl} {fr to : Int} {f : Int × Int} (h : (cuO R fr to f).2 = 0) :
    (isFig f.1 f.2 = true ∧ ¬ ordS fr = 0 ∧ ¬ ordS to = 0) ∧ ∃ x, (cuO R fr to f).1 = atN x ∧ Ln (x - 1) ≤ (scaleD (figLog f) (powS fr to).1 (powS fr to).2).2 + 10 ∧ (scaleD (figLog f) (powS fr to).1 (powS fr to).2).1 ≤ Hn (x + 1) + 10 ∧
      (scaleD (figLog f) (powS fr to).1 (powS fr to).2).1 ≤ (scaleD (figLog f) (powS fr to).1 (powS fr to).2).2 ∧ (scaleD (figLog f) (powS fr to).1 (powS fr to).2).2 ≤ (scaleD (figLog f) (powS fr to).1 (powS fr to).2).1 + 8 := by
  unfold cuO at h ⊢
  by_cases c : (trO R fr to f).2 = 0
  case neg => rw [if_neg c] at h; exact absurd h c
  rw [if_pos c] at h ⊢
  unfold trO at c
  by_cases tc : tCode R fr to (isFig f.1 f.2) = 0
  case neg => rw [if_neg tc] at c; exact absurd c tc
  have e0 : (trO R fr to f).1 = trF fr to f := by unfold trO; rw [if_pos tc]
  rw [e0] at h ⊢
  clear c
  obtain ⟨⟨_, hfig⟩, of, ot⟩ := tCode_zero tc
  obtain ⟨⟨f1, f2⟩, _⟩ := isFig_parts hfig
  refine ⟨⟨hfig, of, ot⟩, ?_⟩
  have hf := ord_ne of
  have ht := ord_ne ot
  obtain ⟨pq, p0, p1⟩ := pt_fig hf f1 f2
  have bst := rdN_best to (ptS fr f)
  have near := read_near ht p0 p1 bst
  have el : figLog f = (Ln (9000 * f.2 + (f.1 - 1000)), Hn (9000 * f.2 + (f.1 - 1000))) := by unfold Ln Hn; rw [fig_at f1 f2]
  have lh := LH (9000 * f.2 + (f.1 - 1000))
  have tg := target hf ht lh pq
  rw [← el] at tg
  unfold plO at h ⊢
  by_cases cv : (isFig f.1 f.2 && isFig (trF fr to f).1 (trF fr to f).2) = false
  · rw [if_pos cv] at h; exact absurd h (by decide)
  rw [if_neg cv] at h ⊢
  have co : ¬ (ordS fr = 0 ∨ ordS to = 0) := fun h => h.elim of ot
  rw [if_neg co] at h ⊢
  unfold plc at h ⊢
  have e1 := figOr_at h
  rw [e1]
  clear h e1 cv co e0
  generalize scaleD (figLog f) (powS fr to).1 (powS fr to).2 = u at *
  obtain ⟨n, hn⟩ : ∃ n, rdN to (ptS fr f) = n := ⟨_, rfl⟩
  rw [hn] at near
  have eF : trF fr to f = atN n := by unfold trF; rw [hn]
  rw [eF]
  clear bst
  generalize ptS fr f = p at *
  generalize kS fr f.2 = k at *
  obtain ⟨J, hJ⟩ : ∃ J, ordS to * (p + k * 1048576) = ordS to * (p + k0 to * 1048576) - J * 1048576 := by
    rcases ht with rfl | rfl | rfl | rfl
    · exact ⟨-k, by show 1 * (p + k * 1048576) = 1 * (p + 0 * 1048576) - -k * 1048576; omega⟩
    · exact ⟨-2 * k, by show 2 * (p + k * 1048576) = 2 * (p + 0 * 1048576) - -2 * k * 1048576; omega⟩
    · exact ⟨-3 * k, by show 3 * (p + k * 1048576) = 3 * (p + 0 * 1048576) - -3 * k * 1048576; omega⟩
    · exact ⟨1 + k, by show -1 * (p + k * 1048576) = -1 * (p + -1 * 1048576) - (1 + k) * 1048576; omega⟩
  rw [hJ] at tg
  generalize ordS to * (p + k0 to * 1048576) = T at *
  have s1 := L_shift (n - 1) (-J)
  have s2 := L_shift (n + 1) (-J)
  have s0 := L_shift n (-J)
  rw [Int.neg_mul] at s1 s2 s0
  have e1 : n - 1 + 9000 * -J = n - 9000 * J - 1 := by omega
  have e2 : n + 1 + 9000 * -J = n - 9000 * J + 1 := by omega
  have e3 : n + 9000 * -J = n - 9000 * J := by omega
  rw [e1] at s1
  rw [e2] at s2
  rw [e3] at s0
  refine ⟨n - 9000 * J, ?_, by omega, by omega, tg.2.1, tg.2.2⟩
  rw [atN_shift]
  refine Prod.ext rfl ?_
  show tenS (gapS (atN n).1 u) = (atN n).2 - J
  have la := L_at n
  have u1 := L_stepU (n - 9000 * J)
  have u2 := L_stepU (n - 9000 * J - 1)
  rw [Int.sub_add_cancel] at u2
  have eg : gapS (atN n).1 u = u.1 + u.2 - (Ln n - (atN n).2 * 1048576) - (Hn n - (atN n).2 * 1048576) := by
    unfold gapS figLog Ln Hn figLog
    dsimp only
    omega
  refine tens_at ?_ ?_
  · rw [eg, Int.mul_sub]; have lhx := LH (n - 9000 * J); omega
  · rw [eg, Int.mul_sub]; have lhx := LH (n - 9000 * J); omega
/-! the span -/
theorem cl_le {a b c : Int} (hb : 0 < b) (h : a ≤ c * b) : cl a b ≤ c := by
  obtain ⟨h1, h2⟩ := fl_spec (-a) b hb
  unfold cl
  rcases Int.lt_or_le c (-(fl (-a) b)) with k | k
  · have := Int.mul_le_mul_of_nonneg_left (show c + 1 ≤ -(fl (-a) b) by omega) (show (0 : Int) ≤ b by omega)
    rw [Int.mul_add, Int.mul_one, Int.mul_neg, Int.mul_comm b c] at this
    omega
  · exact k
end Go.Z
end
section
namespace Go.Z
/-! what a logarithm says of the powers -/
theorem two_pow {A C B E : Nat} (k : Nat) (h1 : E * B ^ (2 ^ k) ≤ C ^ (2 ^ k)) (h2 : C * B ≤ A * A) : E * B ^ (2 ^ (k + 1)) ≤ A ^ (2 ^ (k + 1)) := by
  have e : ∀ x : Nat, x ^ (2 ^ (k + 1)) = (x * x) ^ (2 ^ k) := fun x => by rw [Nat.pow_succ, Nat.mul_comm (2 ^ k) 2, Nat.pow_mul, Nat.pow_two]
  rw [e A, e B, Nat.mul_pow, ← Nat.mul_assoc]
  have h3 := Nat.mul_le_mul_right (B ^ (2 ^ k)) h1
  rw [← Nat.mul_pow] at h3
  exact Nat.le_trans h3 (Nat.pow_le_pow_left h2 _)
theorem two_pow' {A C B E : Nat} (k : Nat) (h1 : C ^ (2 ^ k) ≤ E * B ^ (2 ^ k)) (h2 : A * A ≤ C * B) : A ^ (2 ^ (k + 1)) ≤ E * B ^ (2 ^ (k + 1)) := by
  have e : ∀ x : Nat, x ^ (2 ^ (k + 1)) = (x * x) ^ (2 ^ k) := fun x => by rw [Nat.pow_succ, Nat.mul_comm (2 ^ k) 2, Nat.pow_mul, Nat.pow_two]
  rw [e A, e B, Nat.mul_pow B B, ← Nat.mul_assoc]
  have h3 := Nat.mul_le_mul_right (B ^ (2 ^ k)) h1
  rw [← Nat.mul_pow] at h3
  exact Nat.le_trans (Nat.pow_le_pow_left h2 _) h3
theorem ten_sq (o x : Nat) : 10 ^ o * x * (10 ^ o * x) = 10 ^ (2 * o) * (x * x) := by
  rw [show 2 * o = o + o by omega, Nat.pow_add]; ac_rfl
theorem lN_pow : ∀ (k x o : Nat), 100000000 ≤ x → 10 ^ (lN k x o) * 100000000 ^ (2 ^ k) ≤ (10 ^ o * x) ^ (2 ^ k)
  | 0, x, o, h => by
    show 10 ^ o * 100000000 ^ 1 ≤ (10 ^ o * x) ^ 1
    rw [Nat.pow_one, Nat.pow_one]
    exact Nat.mul_le_mul_left _ h
  | k + 1, x, o, h => by
    have hy : 100000000 ≤ x * x / 100000000 := by
      have := Nat.mul_le_mul h h
      exact (Nat.le_div_iff_mul_le (by decide)).2 this
    have hy2 : x * x / 100000000 * 100000000 ≤ x * x := Nat.div_mul_le_self _ _
    unfold lN
    generalize x * x / 100000000 = y at *
    cases hb : Nat.ble 1000000000 y
    · refine two_pow k (lN_pow k y (2 * o) hy) ?_
      rw [ten_sq, Nat.mul_assoc]
      exact Nat.mul_le_mul_left _ hy2
    · have hb' := Nat.le_of_ble_eq_true hb
      refine two_pow k (lN_pow k (y / 10) (2 * o + 1) (by omega)) ?_
      rw [ten_sq, Nat.pow_succ, Nat.mul_assoc, Nat.mul_assoc]
      exact Nat.mul_le_mul_left _ (by omega)
theorem hN_pow : ∀ (k x o : Nat), x ≤ 1000000000 → (10 ^ o * x) ^ (2 ^ k) ≤ 10 ^ (hN k x o) * 100000000 ^ (2 ^ k)
  | 0, x, o, h => by
    show (10 ^ o * x) ^ 1 ≤ 10 ^ (o + 1) * 100000000 ^ 1
    rw [Nat.pow_one, Nat.pow_one, Nat.pow_succ, Nat.mul_assoc]
    exact Nat.mul_le_mul_left _ (by omega)
  | k + 1, x, o, h => by
    have hx : x * x ≤ 1000000000000000000 := Nat.mul_le_mul h h
    have hy2 : x * x ≤ (x * x + 99999999) / 100000000 * 100000000 := by omega
    have hy3 : (x * x + 99999999) / 100000000 ≤ 10000000000 := by omega
    unfold hN
    generalize (x * x + 99999999) / 100000000 = y at *
    cases hb : Nat.ble 1000000000 y
    · have hb' : ¬ 1000000000 ≤ y := fun c => by rw [Nat.ble_eq_true_of_le c] at hb; cases hb
      refine two_pow' k (hN_pow k y (2 * o) (by omega)) ?_
      rw [ten_sq, Nat.mul_assoc]
      exact Nat.mul_le_mul_left _ hy2
    · refine two_pow' k (hN_pow k ((y + 9) / 10) (2 * o + 1) (by omega)) ?_
      rw [ten_sq, Nat.pow_succ, Nat.mul_assoc, Nat.mul_assoc]
      exact Nat.mul_le_mul_left _ (by omega)
theorem dig_pow (k d : Nat) (h1 : 1000 ≤ d) (h2 : d ≤ 9999) : 10 ^ (lN k (d * 100000) 0) * 1000 ^ (2 ^ k) ≤ d ^ (2 ^ k) ∧ d ^ (2 ^ k) ≤ 10 ^ (hN k (d * 100000) 0) * 1000 ^ (2 ^ k) := by
  have a := lN_pow k (d * 100000) 0 (by omega)
  have b := hN_pow k (d * 100000) 0 (by omega)
  have e : (100000000 : Nat) ^ (2 ^ k) = 1000 ^ (2 ^ k) * 100000 ^ (2 ^ k) := by rw [← Nat.mul_pow]
  have p : 0 < (100000 : Nat) ^ (2 ^ k) := Nat.pow_pos (by decide)
  rw [Nat.pow_zero, Nat.one_mul, Nat.mul_pow d, e, ← Nat.mul_assoc] at a b
  exact ⟨Nat.le_of_mul_le_mul_right a p, Nat.le_of_mul_le_mul_right b p⟩
theorem pows : ∃ N : Nat, N = 1048576 ∧ ∀ d, 1000 ≤ d → d ≤ 9999 → 10 ^ (LL d) * 1000 ^ N ≤ d ^ N ∧ d ^ N ≤ 10 ^ (HH d) * 1000 ^ N := by
  obtain ⟨k, hk⟩ : ∃ k : Nat, k = 20 := ⟨20, rfl⟩
  refine ⟨2 ^ k, by rw [hk], fun d h1 h2 => ?_⟩
  have h := dig_pow k d h1 h2
  have e1 : lN k (d * 100000) 0 = LL d := by rw [hk]; rfl
  have e2 : hN k (d * 100000) 0 = HH d := by rw [hk]; rfl
  rwa [e1, e2] at h
theorem core_up {F G e1 e2 : Nat} (hF : 1000 ≤ F ∧ F ≤ 9999) (hG : 1000 ≤ G ∧ G ≤ 9999) (h : HH F + e1 * 1048576 ≤ 2 * LL G + e2 * 1048576) : F * 1000 * 10 ^ e1 ≤ G * G * 10 ^ e2 := by
  obtain ⟨N, hN, HP⟩ := pows
  rw [← hN] at h
  have a := (HP F hF.1 hF.2).2
  have b := (HP G hG.1 hG.2).1
  have N0 : N ≠ 0 := by omega
  clear HP hN
  rcases Nat.lt_or_ge (G * G * 10 ^ e2) (F * 1000 * 10 ^ e1) with c | c
  · exfalso
    have q := Nat.pow_lt_pow_left c N0
    rw [Nat.mul_pow, Nat.mul_pow, Nat.mul_pow, Nat.mul_pow, ← Nat.pow_mul, ← Nat.pow_mul] at q
    have p := Nat.pow_le_pow_right (show 0 < 10 by decide) h
    rw [Nat.pow_add, Nat.pow_add, Nat.two_mul, Nat.pow_add] at p
    generalize F ^ N = x at *
    generalize G ^ N = y at *
    generalize 1000 ^ N = z at *
    generalize 10 ^ HH F = u at *
    generalize 10 ^ LL G = v at *
    generalize 10 ^ (e1 * N) = s at *
    generalize 10 ^ (e2 * N) = t at *
    have r1 : x * z * s ≤ (u * z) * z * s := Nat.mul_le_mul_right _ (Nat.mul_le_mul_right _ a)
    have r2 : (u * z) * z * s = (u * s) * (z * z) := by ac_rfl
    have r3 : (u * s) * (z * z) ≤ (v * v * t) * (z * z) := Nat.mul_le_mul_right _ p
    have r4 : (v * v * t) * (z * z) = (v * z) * (v * z) * t := by ac_rfl
    have r5 : (v * z) * (v * z) * t ≤ y * y * t := Nat.mul_le_mul_right _ (Nat.mul_le_mul b b)
    omega
  · exact c
theorem core_dn {F G e1 e2 : Nat} (hF : 1000 ≤ F ∧ F ≤ 9999) (hG : 1000 ≤ G ∧ G ≤ 9999) (h : 2 * HH G + e2 * 1048576 ≤ LL F + e1 * 1048576) : G * G * 10 ^ e2 ≤ F * 1000 * 10 ^ e1 := by
  obtain ⟨N, hN, HP⟩ := pows
  rw [← hN] at h
  have a := (HP F hF.1 hF.2).1
  have b := (HP G hG.1 hG.2).2
  have N0 : N ≠ 0 := by omega
  clear HP hN
  rcases Nat.lt_or_ge (F * 1000 * 10 ^ e1) (G * G * 10 ^ e2) with c | c
  · exfalso
    have q := Nat.pow_lt_pow_left c N0
    rw [Nat.mul_pow, Nat.mul_pow, Nat.mul_pow, Nat.mul_pow, ← Nat.pow_mul, ← Nat.pow_mul] at q
    have p := Nat.pow_le_pow_right (show 0 < 10 by decide) h
    rw [Nat.pow_add, Nat.pow_add, Nat.two_mul, Nat.pow_add] at p
    generalize F ^ N = x at *
    generalize G ^ N = y at *
    generalize 1000 ^ N = z at *
    generalize 10 ^ LL F = u at *
    generalize 10 ^ HH G = v at *
    generalize 10 ^ (e1 * N) = s at *
    generalize 10 ^ (e2 * N) = t at *
    have r1 : (u * z) * z * s ≤ x * z * s := Nat.mul_le_mul_right _ (Nat.mul_le_mul_right _ a)
    have r2 : (u * z) * z * s = (u * s) * (z * z) := by ac_rfl
    have r3 : (v * v * t) * (z * z) ≤ (u * s) * (z * z) := Nat.mul_le_mul_right _ p
    have r4 : (v * v * t) * (z * z) = (v * z) * (v * z) * t := by ac_rfl
    have r5 : y * y * t ≤ (v * z) * (v * z) * t := Nat.mul_le_mul_right _ (Nat.mul_le_mul b b)
    omega
  · exact c
/-- the digits of the figure with a number -/
def dg (n : Int) : Nat := (1000 + n % 9000).toNat
theorem dg_in (n : Int) : 1000 ≤ dg n ∧ dg n ≤ 9999 ∧ (dg n : Int) = 1000 + n % 9000 := by unfold dg; omega
theorem L_dg (n : Int) : Ln n = ((LL (dg n) : Nat) : Int) + n / 9000 * 1048576 ∧ Hn n = ((HH (dg n) : Nat) : Int) + n / 9000 * 1048576 := by
  obtain ⟨a, b⟩ := L_at n
  have c := (dg_in n).2.2
  rw [← c, logOf_LL] at a b
  exact ⟨a, b⟩
theorem LL_lt {d : Nat} (h1 : 1000 ≤ d) (h2 : d ≤ 9999) : LL d ≤ HH d ∧ HH d ≤ 1048531 := by
  have w := width d h1 h2
  have l := log_in (d := (d : Int)) (by omega) (by omega)
  rw [logOf_LL] at l
  dsimp only at l
  omega
theorem sq_up {f g : Int} (h : Hn f ≤ 2 * Ln g) : f / 9000 - 2 * (g / 9000) ≤ 1 ∧ (f / 9000 - 2 * (g / 9000) = 1 → (1000 + f % 9000) * 10000 ≤ (1000 + g % 9000) * (1000 + g % 9000)) ∧
    (f / 9000 - 2 * (g / 9000) = 0 → (1000 + f % 9000) * 1000 ≤ (1000 + g % 9000) * (1000 + g % 9000)) := by
  obtain ⟨_, a⟩ := L_dg f
  obtain ⟨b, _⟩ := L_dg g
  have df := dg_in f
  have dgg := dg_in g
  have lf := LL_lt df.1 df.2.1
  have lg := LL_lt dgg.1 dgg.2.1
  rw [← df.2.2, ← dgg.2.2]
  rw [a, b] at h
  generalize f / 9000 = s at *
  generalize g / 9000 = t at *
  refine ⟨by omega, fun e => ?_, fun e => ?_⟩
  · have := core_up (e1 := 1) (e2 := 0) ⟨df.1, df.2.1⟩ ⟨dgg.1, dgg.2.1⟩ (by omega)
    rw [Nat.pow_one, Nat.pow_zero, Nat.mul_one] at this
    have q : ((dg f * 1000 * 10 : Nat) : Int) ≤ ((dg g * dg g : Nat) : Int) := Int.ofNat_le.2 this
    rw [Int.natCast_mul, Int.natCast_mul, Int.natCast_mul] at q
    omega
  · have := core_up (e1 := 0) (e2 := 0) ⟨df.1, df.2.1⟩ ⟨dgg.1, dgg.2.1⟩ (by omega)
    rw [Nat.pow_zero, Nat.mul_one, Nat.mul_one] at this
    have q : ((dg f * 1000 : Nat) : Int) ≤ ((dg g * dg g : Nat) : Int) := Int.ofNat_le.2 this
    rw [Int.natCast_mul, Int.natCast_mul] at q
    omega
theorem sq_dn {f g : Int} (h : 2 * Hn g ≤ Ln f) : 0 ≤ f / 9000 - 2 * (g / 9000) ∧ (f / 9000 - 2 * (g / 9000) = 1 → (1000 + g % 9000) * (1000 + g % 9000) ≤ (1000 + f % 9000) * 10000) ∧
    (f / 9000 - 2 * (g / 9000) = 0 → (1000 + g % 9000) * (1000 + g % 9000) ≤ (1000 + f % 9000) * 1000) := by
  obtain ⟨a, _⟩ := L_dg f
  obtain ⟨_, b⟩ := L_dg g
  have df := dg_in f
  have dgg := dg_in g
  have lf := LL_lt df.1 df.2.1
  have lg := LL_lt dgg.1 dgg.2.1
  rw [← df.2.2, ← dgg.2.2]
  rw [a, b] at h
  generalize f / 9000 = s at *
  generalize g / 9000 = t at *
  refine ⟨by omega, fun e => ?_, fun e => ?_⟩
  · have := core_dn (e1 := 1) (e2 := 0) ⟨df.1, df.2.1⟩ ⟨dgg.1, dgg.2.1⟩ (by omega)
    rw [Nat.pow_one, Nat.pow_zero, Nat.mul_one] at this
    have q : ((dg g * dg g : Nat) : Int) ≤ ((dg f * 1000 * 10 : Nat) : Int) := Int.ofNat_le.2 this
    rw [Int.natCast_mul, Int.natCast_mul, Int.natCast_mul] at q
    omega
  · have := core_dn (e1 := 0) (e2 := 0) ⟨df.1, df.2.1⟩ ⟨dgg.1, dgg.2.1⟩ (by omega)
    rw [Nat.pow_zero, Nat.mul_one, Nat.mul_one] at this
    have q : ((dg g * dg g : Nat) : Int) ≤ ((dg f * 1000 : Nat) : Int) := Int.ofNat_le.2 this
    rw [Int.natCast_mul, Int.natCast_mul] at q
    omega
theorem sqr_add (X : Int) : (X + 2) * (X + 2) = X * X + 4 * X + 4 := by rw [Int.add_mul, Int.mul_add, Int.mul_add]; omega
theorem sqr_sub (X : Int) : (X - 2) * (X - 2) = X * X - 4 * X + 4 := by rw [Int.sub_mul, Int.mul_sub, Int.mul_sub]; omega
/-- a figure between the squares of the neighbours but one -/
theorem near_sq {f x : Int} (h1 : Hn f ≤ 2 * Ln (x + 2)) (h2 : 2 * Hn (x - 2) ≤ Ln f) :
    ∃ V : Int, ((f / 9000 - 2 * (x / 9000) = -1 ∧ 10 * V = (1000 + f % 9000) * 1000) ∨ (f / 9000 - 2 * (x / 9000) = 0 ∧ V = (1000 + f % 9000) * 1000) ∨ (f / 9000 - 2 * (x / 9000) = 1 ∧ V = (1000 + f % 9000) * 10000) ∨ (f / 9000 - 2 * (x / 9000) = 2 ∧ V = (1000 + f % 9000) * 100000)) ∧
      10000 * (V - (1000 + x % 9000) * (1000 + x % 9000)) ≤ 42 * ((1000 + x % 9000) * (1000 + x % 9000)) ∧ 10000 * ((1000 + x % 9000) * (1000 + x % 9000) - V) ≤ 42 * ((1000 + x % 9000) * (1000 + x % 9000)) := by
  obtain ⟨u0, u1, u2⟩ := sq_up h1
  obtain ⟨d0, d1, d2⟩ := sq_dn h2
  obtain ⟨r, hr⟩ : ∃ r, x % 9000 = r := ⟨_, rfl⟩
  obtain ⟨t, ht⟩ : ∃ t, x / 9000 = t := ⟨_, rfl⟩
  have rb : 0 ≤ r ∧ r < 9000 := by omega
  have hF : 0 ≤ f % 9000 ∧ f % 9000 < 9000 := by omega
  by_cases c1 : r ≤ 1
  · rw [show (x + 2) / 9000 = t by omega] at u0
    rw [show (x + 2) / 9000 = t by omega, show (x + 2) % 9000 = r + 2 by omega] at u1 u2
    rw [show (x - 2) / 9000 = t - 1 by omega] at d0
    rw [show (x - 2) / 9000 = t - 1 by omega, show (x - 2) % 9000 = r + 8998 by omega] at d1 d2
    rw [hr, ht]
    generalize f % 9000 = F at *
    generalize f / 9000 = s at *
    have hs : s - 2 * t = -2 ∨ s - 2 * t = -1 ∨ s - 2 * t = 0 ∨ s - 2 * t = 1 := by omega
    have hr2 : r = 0 ∨ r = 1 := by omega
    rcases hr2 with rfl | rfl
    · rcases hs with e | e | e | e
      · have := d2 (by omega); omega
      · have := d1 (by omega); exact ⟨(1000 + F) * 100, .inl ⟨e, by omega⟩, by omega, by omega⟩
      · have := u2 (by omega); exact ⟨(1000 + F) * 1000, .inr (.inl ⟨e, by omega⟩), by omega, by omega⟩
      · have := u1 (by omega); omega
    · rcases hs with e | e | e | e
      · have := d2 (by omega); omega
      · have := d1 (by omega); exact ⟨(1000 + F) * 100, .inl ⟨e, by omega⟩, by omega, by omega⟩
      · have := u2 (by omega); exact ⟨(1000 + F) * 1000, .inr (.inl ⟨e, by omega⟩), by omega, by omega⟩
      · have := u1 (by omega); omega
  by_cases c2 : 8998 ≤ r
  · rw [show (x + 2) / 9000 = t + 1 by omega] at u0
    rw [show (x + 2) / 9000 = t + 1 by omega, show (x + 2) % 9000 = r - 8998 by omega] at u1 u2
    rw [show (x - 2) / 9000 = t by omega] at d0
    rw [show (x - 2) / 9000 = t by omega, show (x - 2) % 9000 = r - 2 by omega] at d1 d2
    rw [hr, ht]
    generalize f % 9000 = F at *
    generalize f / 9000 = s at *
    have hs : s - 2 * t = 0 ∨ s - 2 * t = 1 ∨ s - 2 * t = 2 ∨ s - 2 * t = 3 := by omega
    have hr2 : r = 8998 ∨ r = 8999 := by omega
    rcases hr2 with rfl | rfl
    · rcases hs with e | e | e | e
      · have := d2 (by omega); omega
      · have := d1 (by omega); exact ⟨(1000 + F) * 10000, .inr (.inr (.inl ⟨e, by omega⟩)), by omega, by omega⟩
      · have := u2 (by omega); exact ⟨(1000 + F) * 100000, .inr (.inr (.inr ⟨e, by omega⟩)), by omega, by omega⟩
      · have := u1 (by omega); omega
    · rcases hs with e | e | e | e
      · have := d2 (by omega); omega
      · have := d1 (by omega); exact ⟨(1000 + F) * 10000, .inr (.inr (.inl ⟨e, by omega⟩)), by omega, by omega⟩
      · have := u2 (by omega); exact ⟨(1000 + F) * 100000, .inr (.inr (.inr ⟨e, by omega⟩)), by omega, by omega⟩
      · have := u1 (by omega); omega
  · rw [show (x + 2) / 9000 = t by omega, show (x + 2) % 9000 = r + 2 by omega, show (1000 : Int) + (r + 2) = 1000 + r + 2 by omega, sqr_add] at u1 u2
    rw [show (x + 2) / 9000 = t by omega] at u0
    rw [show (x - 2) / 9000 = t by omega, show (x - 2) % 9000 = r - 2 by omega, show (1000 : Int) + (r - 2) = 1000 + r - 2 by omega, sqr_sub] at d1 d2
    rw [show (x - 2) / 9000 = t by omega] at d0
    rw [hr, ht]
    have hQ : 1000 * (1000 + r) ≤ (1000 + r) * (1000 + r) := Int.mul_le_mul_of_nonneg_right (by omega) (by omega)
    generalize (1000 + r) * (1000 + r) = Q at *
    generalize f % 9000 = F at *
    generalize f / 9000 = s at *
    have hs : s - 2 * t = 0 ∨ s - 2 * t = 1 := by omega
    rcases hs with e | e
    · have a := u2 e; have b := d2 e; exact ⟨(1000 + F) * 1000, .inr (.inl ⟨e, rfl⟩), by omega, by omega⟩
    · have a := u1 e; have b := d1 e; exact ⟨(1000 + F) * 10000, .inr (.inr (.inl ⟨e, rfl⟩)), by omega, by omega⟩
/-! the rounded square -/
theorem nr_near (n d : Int) (hd : 0 < d) : 2 * (d * nr n d) ≤ 2 * n + d ∧ 2 * n - d < 2 * (d * nr n d) := by
  obtain ⟨h1, h2⟩ := fl_spec (2 * n + d) (2 * d) (by omega)
  unfold nr
  rw [Int.mul_assoc] at h1 h2
  omega
theorem round_sq {Q t : Int} (h1 : 1000000 ≤ Q) (h2 : Q < 100000000) : ∃ (j W : Int), (round Q 1 (t - 6)).2 = t + j ∧ (1000 ≤ (round Q 1 (t - 6)).1 ∧ (round Q 1 (t - 6)).1 ≤ 9999) ∧
    ((j = 0 ∧ W = 1000 * (round Q 1 (t - 6)).1) ∨ (j = 1 ∧ W = 10000 * (round Q 1 (t - 6)).1) ∨ (j = 2 ∧ W = 100000 * (round Q 1 (t - 6)).1)) ∧ 2000 * (W - Q) ≤ Q ∧ 2000 * (Q - W) ≤ Q := by
  have e : ∀ k n d s, 10000 * d ≤ n → dn (k + 1) n d s = dn k n (10 * d) (s + 1) := fun k n d s h => by show (if 10000 * d ≤ n then _ else _) = _; rw [if_pos h]
  by_cases c : Q < 10000000
  · have a : dn 12 Q 1 (t - 6 + 3) = (1000, t) := by
      rw [e _ _ _ _ (by omega), e _ _ _ _ (by omega), e _ _ _ _ (by omega), dn_end (by omega)]
      exact Prod.ext rfl (by dsimp only; omega)
    have b : round Q 1 (t - 6) = fin Q 1000 t := by unfold round; rw [a]; dsimp only; rw [up_end (by omega)]
    obtain ⟨n1, n2⟩ := nr_near Q 1000 (by decide)
    rw [b]
    unfold fin
    by_cases hn : nr Q 1000 = 10000
    · rw [if_pos hn]; rw [hn] at n1 n2
      exact ⟨1, 10000000, rfl, by dsimp only; omega, .inr (.inl ⟨rfl, rfl⟩), by omega, by omega⟩
    · rw [if_neg hn]
      exact ⟨0, 1000 * nr Q 1000, by dsimp only; omega, by dsimp only; omega, .inl ⟨rfl, rfl⟩, by omega, by omega⟩
  · have a : dn 12 Q 1 (t - 6 + 3) = (10000, t + 1) := by
      rw [e _ _ _ _ (by omega), e _ _ _ _ (by omega), e _ _ _ _ (by omega), e _ _ _ _ (by omega), dn_end (by omega)]
      exact Prod.ext rfl (by dsimp only; omega)
    have b : round Q 1 (t - 6) = fin Q 10000 (t + 1) := by unfold round; rw [a]; dsimp only; rw [up_end (by omega)]
    obtain ⟨n1, n2⟩ := nr_near Q 10000 (by decide)
    rw [b]
    unfold fin
    by_cases hn : nr Q 10000 = 10000
    · rw [if_pos hn]; rw [hn] at n1 n2
      exact ⟨2, 100000000, by dsimp only; omega, by dsimp only; omega, .inr (.inr ⟨rfl, rfl⟩), by omega, by omega⟩
    · rw [if_neg hn]
      exact ⟨1, 10000 * nr Q 10000, rfl, by dsimp only; omega, .inr (.inl ⟨rfl, rfl⟩), by omega, by omega⟩
theorem rel_le {a b : Int × Int} (hb : 0 < b.1) (h : (a.2 - b.2 = 0 ∧ 1000000 * ab (a.1 - b.1) ≤ 6000 * b.1) ∨ (a.2 - b.2 = 1 ∧ 1000000 * ab (a.1 * 10 - b.1) ≤ 6000 * b.1) ∨ (a.2 - b.2 = -1 ∧ 1000000 * ab (a.1 - b.1 * 10) ≤ 6000 * (b.1 * 10))) : relE a b ≤ 6000 := by
  unfold relE
  rcases h with ⟨e, h⟩ | ⟨e, h⟩ | ⟨e, h⟩
  · rw [e, if_neg (by decide), if_neg (by decide)]
    show cl (1000000 * ab (a.1 * 1 - b.1 * 1)) (b.1 * 1) ≤ 6000
    rw [Int.mul_one, Int.mul_one]; exact cl_le hb h
  · rw [e, if_neg (by decide), if_neg (by decide)]
    show cl (1000000 * ab (a.1 * 10 - b.1 * 1)) (b.1 * 1) ≤ 6000
    rw [Int.mul_one]; exact cl_le hb h
  · rw [e, if_neg (by decide), if_neg (by decide)]
    show cl (1000000 * ab (a.1 * 1 - b.1 * 10)) (b.1 * 10) ≤ 6000
    rw [Int.mul_one]; exact cl_le (by omega) h
theorem root_law {R : Rl} {f : Int × Int} (h : (cuO R 1 0 f).2 = 0) :
    (¬ (MultiplyFigures (cuO R 1 0 f).1 (cuO R 1 0 f).1).2 = 0 → (MultiplyFigures (cuO R 1 0 f).1 (cuO R 1 0 f).1).2 = 3) ∧
    ((MultiplyFigures (cuO R 1 0 f).1 (cuO R 1 0 f).1).2 = 0 → (relX (MultiplyFigures (cuO R 1 0 f).1 (cuO R 1 0 f).1).1 f).2 = 0 ∧ (relX (MultiplyFigures (cuO R 1 0 f).1 (cuO R 1 0 f).1).1 f).1 ≤ 6000) := by
  have hv := cu_valid h
  obtain ⟨⟨hf, _, _⟩, x, ex, n1, n2, _, _⟩ := cu_near h
  have em : MultiplyFigures (cuO R 1 0 f).1 (cuO R 1 0 f).1 = figOr (round ((cuO R 1 0 f).1.1 * (cuO R 1 0 f).1.1) 1 ((cuO R 1 0 f).1.2 + (cuO R 1 0 f).1.2 - 6)) := by
    unfold MultiplyFigures; rw [hv, Bool.and_self, if_pos rfl]
  rw [em, ex]
  clear em
  show (¬ (figOr (round ((1000 + x % 9000) * (1000 + x % 9000)) 1 (x / 9000 + x / 9000 - 6))).2 = 0 → _) ∧ _
  have e0 : (atN x).1 = 1000 + x % 9000 := rfl
  have e1 : (atN x).2 = x / 9000 := rfl
  rw [e0, e1]
  obtain ⟨⟨f1, f2⟩, _⟩ := isFig_parts hf
  have el : figLog f = (Ln (9000 * f.2 + (f.1 - 1000)), Hn (9000 * f.2 + (f.1 - 1000))) := by unfold Ln Hn; rw [fig_at f1 f2]
  have lh := LH (9000 * f.2 + (f.1 - 1000))
  rw [el, show powS 1 0 = (1, 2) from rfl] at n1 n2
  unfold scaleD at n1 n2
  dsimp only at n1 n2
  have g1 := fl2 (min (Ln (9000 * f.2 + (f.1 - 1000)) * 1) (Hn (9000 * f.2 + (f.1 - 1000)) * 1))
  have g2 := cl2 (max (Ln (9000 * f.2 + (f.1 - 1000)) * 1) (Hn (9000 * f.2 + (f.1 - 1000)) * 1))
  have s1 := L_step (x + 1)
  have s2 := L_step (x - 2)
  have l1 := LH (x + 1)
  have l2 := LH (x - 1)
  rw [show x + 1 + 1 = x + 2 by omega] at s1
  rw [show x - 2 + 1 = x - 1 by omega] at s2
  obtain ⟨V, hV, v1, v2⟩ := near_sq (f := 9000 * f.2 + (f.1 - 1000)) (x := x) (by omega) (by omega)
  clear n1 n2 g1 g2 s1 s2 l1 l2 lh el
  rw [show (9000 * f.2 + (f.1 - 1000)) / 9000 = f.2 by omega, show 1000 + (9000 * f.2 + (f.1 - 1000)) % 9000 = f.1 by omega] at hV
  have hX : 1000 ≤ 1000 + x % 9000 ∧ 1000 + x % 9000 ≤ 9999 := by omega
  have q1 : 1000000 ≤ (1000 + x % 9000) * (1000 + x % 9000) := Int.mul_le_mul (show (1000 : Int) ≤ _ from hX.1) hX.1 (by decide) (by omega)
  have q2 : (1000 + x % 9000) * (1000 + x % 9000) ≤ 9999 * 9999 := Int.mul_le_mul hX.2 hX.2 (by omega) (by decide)
  generalize (1000 + x % 9000) * (1000 + x % 9000) = Q at *
  generalize x / 9000 = t at *
  obtain ⟨j, W, r1, r2, r3, r4, r5⟩ := round_sq (Q := Q) (t := t + t) q1 (by omega)
  generalize round Q 1 (t + t - 6) = S at *
  constructor
  · intro hn
    unfold figOr at hn ⊢
    split
    · rename_i hs; rw [if_pos hs] at hn; exact absurd rfl hn
    · rfl
  · intro hn
    have hs : isFig S.1 S.2 = true := by
      unfold figOr at hn
      cases hc : isFig S.1 S.2
      · rw [hc, if_neg (by decide)] at hn; exact absurd hn (by decide)
      · rfl
    have e3 : (figOr S).1 = S := figOr_at hn
    rw [e3]
    have key : relE S f ≤ 6000 := by
      refine rel_le (by omega) ?_
      unfold ab
      rcases r3 with ⟨rfl, rw_⟩ | ⟨rfl, rw_⟩ | ⟨rfl, rw_⟩ <;> rcases hV with ⟨ev, hV⟩ | ⟨ev, hV⟩ | ⟨ev, hV⟩ | ⟨ev, hV⟩ <;> omega
    unfold relX relO
    rw [hs, hf, if_neg (by decide), if_neg (by omega)]
    exact ⟨rfl, key⟩
end Go.Z
end
section
namespace Go.Z
theorem tt_ok {R : Rl} {fr to : Int} {fs : List (Int × Int)} (h : (ttO R fr to fs).2 = 0) : (ttO R fr to fs).1 = fs.map (trF fr to) ∧ ∀ k (hk : k < fs.length), trO R fr to (fs[k]'hk) = (trF fr to (fs[k]'hk), 0) := by
  unfold ttO at h ⊢
  by_cases c : tCode R fr to (areFigs fs) = 0
  case neg => rw [if_pos c] at h; exact absurd h c
  rw [if_neg (by simpa using c)] at h ⊢
  by_cases l : 20 < fs.length
  · rw [if_pos l] at h; exact absurd h (by decide)
  rw [if_neg l]
  refine ⟨rfl, fun k hk => ?_⟩
  obtain ⟨⟨_, hf⟩, _, _⟩ := tCode_zero c
  have hk2 := areFigs_at hf k hk
  rw [show fs.getD k (0, 0) = fs[k]'hk by simp [List.getD_eq_getElem?_getD, hk]] at hk2
  rw [hf] at c
  unfold trO
  rw [hk2, if_pos c]
theorem tt_bad {R : Rl} {fr to : Int} {fs : List (Int × Int)} (h : ¬ (ttO R fr to fs).2 = 0) : (ttO R fr to fs).1 = [] := by
  unfold ttO at h ⊢
  by_cases c : tCode R fr to (areFigs fs) = 0
  · rw [if_neg (by simpa using c)] at h ⊢
    by_cases l : 20 < fs.length
    · rw [if_pos l]
    · rw [if_neg l] at h; exact absurd rfl h
  · rw [if_pos c]
end Go.Z
namespace Go.Proofs.YtimpcelbekhipaaGreat
open Go.RowKit
set_option maxRecDepth 100000 in
set_option maxHeartbeats 12800000 in
theorem law_FnRoots {n : Nat} {v : Value} (w : World) (h : K.byts w w.heap.size v n) :
    Calls Tryz.prog 4 #[v] w fun e w' => e = .returned (.bool true) ∧ K.Ext w w' := by
  have F0 : K.Ext w w := K.Ext.refl _
  rcases Nat.lt_or_ge 4096 n with hn | hn
  · go_enter Tryz.func4, Tryz.ntmps4
    go_wp2_with fail
    refine K.call (by with_reducible rfl) (by with_reducible rfl) (big_yes _ hn h) ?_
    rintro e w1 ⟨rfl, rfl⟩
    go_wp2_with fail
    go_ret
    exact ⟨rfl, F0⟩
  go_enter Tryz.func4, Tryz.ntmps4
  go_wp2_with fail
  refine K.call (by with_reducible rfl) (by with_reducible rfl) (big_no _ hn h) ?_
  rintro e w1 ⟨rfl, rfl⟩
  go_wp2_with fail
  refine K.call (by with_reducible rfl) (by with_reducible rfl) (DrawSquareRoot_any _ hn (K.Ext.size (K.bex F0)) (h.ext (K.bex F0))) ?_
  rintro e w1 ⟨⟨R, pR, qR, f, rfl, ⟨nR, mR⟩, ⟨iR, aR⟩, ⟨jR, bR⟩⟩, f1⟩
  have F1 : K.Ext w w1 := K.Ext.trans (K.bex F0) f1
  clear f1
  obtain ⟨oRS, kRS, rfl, _⟩ := id iR
  obtain ⟨oRL, kRL, rfl, _⟩ := id jR
  have IRS_1 : K.ints w1 (w.heap.size) w1.heap.size (.slice oRS R.st.length kRS) R.st := iR.mono (by simp) (Nat.le_refl _)
  have IRL_1 : K.ints w1 (w.heap.size) w1.heap.size (.slice oRL R.sl.length kRL) R.sl := jR.mono (by simp) (Nat.le_refl _)
  clear iR jR
  obtain ⟨SR, eSR⟩ : ∃ x, Z.cuO R 1 0 f = x := ⟨_, rfl⟩
  have HISR : Hid (∀ (W : World) {l1 h1 l2 h2 : Nat}, K.ints W l1 h1 (.slice oRS R.st.length kRS) R.st → K.ints W l2 h2 (.slice oRL R.sl.length kRL) R.sl → Calls Tryz.prog 14 #[.agg #[.int .i64 R.ln, .slice oRS R.st.length kRS, .slice oRL R.sl.length kRL], .agg #[.int .i64 f.1, .int .i64 f.2]] W fun e w'' => e = .returned (.tuple #[.agg #[.int .i64 SR.1.1, .int .i64 SR.1.2], .int .i64 SR.2]) ∧ K.Ext W w'') := Z.hide (fun W {_ _ _ _} k1 k2 => by rw [← eSR]; exact impl_SquareRoot R f W (by omega) k1 aR (by omega) k2 bR)
  have HSSR : Hid (∀ (W : World) {l1 h1 l2 h2 : Nat}, K.ints W l1 h1 (.slice oRS R.st.length kRS) R.st → K.ints W l2 h2 (.slice oRL R.sl.length kRL) R.sl → Calls Tryz.prog 15 #[.agg #[.int .i64 R.ln, .slice oRS R.st.length kRS, .slice oRL R.sl.length kRL], .agg #[.int .i64 f.1, .int .i64 f.2]] W fun e w'' => e = .returned (.tuple #[.agg #[.int .i64 SR.1.1, .int .i64 SR.1.2], .int .i64 SR.2]) ∧ K.Ext W w'') := Z.hide (fun W {_ _ _ _} k1 k2 => by rw [← eSR]; exact spec_SquareRoot R f W (by omega) k1 aR (by omega) k2 bR)
  obtain ⟨CU, eCU⟩ : ∃ x, Z.cuO R 0 2 f = x := ⟨_, rfl⟩
  have HICU : Hid (∀ (W : World) {l1 h1 l2 h2 : Nat}, K.ints W l1 h1 (.slice oRS R.st.length kRS) R.st → K.ints W l2 h2 (.slice oRL R.sl.length kRL) R.sl → Calls Tryz.prog 16 #[.agg #[.int .i64 R.ln, .slice oRS R.st.length kRS, .slice oRL R.sl.length kRL], .agg #[.int .i64 f.1, .int .i64 f.2]] W fun e w'' => e = .returned (.tuple #[.agg #[.int .i64 CU.1.1, .int .i64 CU.1.2], .int .i64 CU.2]) ∧ K.Ext W w'') := Z.hide (fun W {_ _ _ _} k1 k2 => by rw [← eCU]; exact impl_CubeOf R f W (by omega) k1 aR (by omega) k2 bR)
  have HSCU : Hid (∀ (W : World) {l1 h1 l2 h2 : Nat}, K.ints W l1 h1 (.slice oRS R.st.length kRS) R.st → K.ints W l2 h2 (.slice oRL R.sl.length kRL) R.sl → Calls Tryz.prog 17 #[.agg #[.int .i64 R.ln, .slice oRS R.st.length kRS, .slice oRL R.sl.length kRL], .agg #[.int .i64 f.1, .int .i64 f.2]] W fun e w'' => e = .returned (.tuple #[.agg #[.int .i64 CU.1.1, .int .i64 CU.1.2], .int .i64 CU.2]) ∧ K.Ext W w'') := Z.hide (fun W {_ _ _ _} k1 k2 => by rw [← eCU]; exact spec_CubeOf R f W (by omega) k1 aR (by omega) k2 bR)
  have HRL := Z.root_law (R := R) (f := f)
  rw [eSR] at HRL
  obtain ⟨MQ, eMQ⟩ : ∃ x, Z.MultiplyFigures SR.1 SR.1 = x := ⟨_, rfl⟩
  have HMQ := Z.hide (fun W => impl_MultiplyFigures SR.1 SR.1 W)
  rw [eMQ] at HMQ HRL
  obtain ⟨RX, eRX⟩ : ∃ x, Z.relX MQ.1 f = x := ⟨_, rfl⟩
  have HRX := Z.hide (fun W => impl_RelativeError MQ.1 f W)
  rw [eRX] at HRX HRL
  clear eSR eCU eMQ eRX
  go_wp2_with fail
  refine K.call (by with_reducible rfl) (by with_reducible rfl) (HISR.out _ (K.bin IRS_1) (K.bin IRL_1)) ?_
  rintro e w2 ⟨rfl, f2⟩
  have F2 : K.Ext w w2 := K.Ext.trans (K.bex F1) f2
  have c2_0_0 : w2.cell? ⟨w1.heap.size, 0, none⟩ = some (.int .i64 R.ln) := f2.cell_of (by go_simp)
  have c2_0_1 : w2.cell? ⟨w1.heap.size, 1, none⟩ = some (.slice oRS R.st.length kRS) := f2.cell_of (by go_simp)
  have c2_0_2 : w2.cell? ⟨w1.heap.size, 2, none⟩ = some (.slice oRL R.sl.length kRL) := f2.cell_of (by go_simp)
  have y2_0 : w1.heap.size < w2.heap.size := World.block_lt_of_cell? w2 _ c2_0_0
  have c2_1_0 : w2.cell? ⟨w1.heap.size + 1, 0, none⟩ = some (.int .i64 f.1) := f2.cell_of (by go_simp)
  have c2_1_1 : w2.cell? ⟨w1.heap.size + 1, 1, none⟩ = some (.int .i64 f.2) := f2.cell_of (by go_simp)
  have y2_1 : w1.heap.size + 1 < w2.heap.size := World.block_lt_of_cell? w2 _ c2_1_0
  have IRS_2 := K.ints.ext (K.bin IRS_1) f2
  have IRL_2 := K.ints.ext (K.bin IRL_1) f2
  clear IRS_1 IRL_1 F1 f2
  go_wp2_with fail
  refine K.call (by with_reducible rfl) (by with_reducible rfl) (HSSR.out _ (K.bin IRS_2) (K.bin IRL_2)) ?_
  rintro e w3 ⟨rfl, f3⟩
  have u3_0_1 : w1.heap.size < w2.heap.size + 1 := (by omega)
  have u3_1_1 : w1.heap.size + 1 < w2.heap.size + 1 := (by omega)
  have F3 : K.Ext w w3 := K.Ext.trans (K.bex F2) f3
  obtain ⟨c3_0_0, c3_0_1, c3_0_2, y3_0⟩ := f3.q3 c2_0_0 c2_0_1 c2_0_2
  obtain ⟨c3_1_0, c3_1_1, y3_1⟩ := f3.q2 c2_1_0 c2_1_1
  have c3_2_0 : w3.cell? ⟨w2.heap.size, 0, none⟩ = some (.int .i64 SR.1.1) := f3.cell_of (by go_simp)
  have c3_2_1 : w3.cell? ⟨w2.heap.size, 1, none⟩ = some (.int .i64 SR.1.2) := f3.cell_of (by go_simp)
  have y3_2 : w2.heap.size < w3.heap.size := World.block_lt_of_cell? w3 _ c3_2_0
  have IRS_3 := K.ints.ext (K.bin IRS_2) f3
  have IRL_3 := K.ints.ext (K.bin IRL_2) f3
  clear c2_0_0 c2_0_1 c2_0_2 y2_0 c2_1_0 c2_1_1 y2_1 IRS_2 IRL_2 F2 f3 u3_0_1 u3_1_1
  go_wp2_with fail
  refine K.call (by with_reducible rfl) (by with_reducible rfl) (HICU.out _ (K.bin IRS_3) (K.bin IRL_3)) ?_
  rintro e w4 ⟨rfl, f4⟩
  have u4_0_1 : w1.heap.size < w3.heap.size + 1 := (by omega)
  have u4_1_1 : w1.heap.size + 1 < w3.heap.size + 1 := (by omega)
  have u4_2_1 : w2.heap.size < w3.heap.size + 1 := (by omega)
  have F4 : K.Ext w w4 := K.Ext.trans (K.bex F3) f4
  obtain ⟨c4_0_0, c4_0_1, c4_0_2, y4_0⟩ := f4.q3 c3_0_0 c3_0_1 c3_0_2
  obtain ⟨c4_1_0, c4_1_1, y4_1⟩ := f4.q2 c3_1_0 c3_1_1
  obtain ⟨c4_2_0, c4_2_1, y4_2⟩ := f4.q2 c3_2_0 c3_2_1
  have c4_3_0 : w4.cell? ⟨w3.heap.size, 0, none⟩ = some (.int .i64 SR.1.1) := f4.cell_of (by go_simp)
  have c4_3_1 : w4.cell? ⟨w3.heap.size, 1, none⟩ = some (.int .i64 SR.1.2) := f4.cell_of (by go_simp)
  have y4_3 : w3.heap.size < w4.heap.size := World.block_lt_of_cell? w4 _ c4_3_0
  have IRS_4 := K.ints.ext (K.bin IRS_3) f4
  have IRL_4 := K.ints.ext (K.bin IRL_3) f4
  clear c3_0_0 c3_0_1 c3_0_2 y3_0 c3_1_0 c3_1_1 y3_1 c3_2_0 c3_2_1 y3_2 IRS_3 IRL_3 F3 f4 u4_0_1 u4_1_1 u4_2_1
  go_wp2_with fail
  refine K.call (by with_reducible rfl) (by with_reducible rfl) (HSCU.out _ (K.bin IRS_4) (K.bin IRL_4)) ?_
  rintro e w5 ⟨rfl, f5⟩
  have u5_0_1 : w1.heap.size < w4.heap.size + 1 := (by omega)
  have u5_1_1 : w1.heap.size + 1 < w4.heap.size + 1 := (by omega)
  have u5_2_1 : w2.heap.size < w4.heap.size + 1 := (by omega)
  have u5_3_1 : w3.heap.size < w4.heap.size + 1 := (by omega)
  have F5 : K.Ext w w5 := K.Ext.trans (K.bex F4) f5
  obtain ⟨c5_0_0, c5_0_1, c5_0_2, y5_0⟩ := f5.q3 c4_0_0 c4_0_1 c4_0_2
  obtain ⟨c5_1_0, c5_1_1, y5_1⟩ := f5.q2 c4_1_0 c4_1_1
  obtain ⟨c5_2_0, c5_2_1, y5_2⟩ := f5.q2 c4_2_0 c4_2_1
  obtain ⟨c5_3_0, c5_3_1, y5_3⟩ := f5.q2 c4_3_0 c4_3_1
  have c5_4_0 : w5.cell? ⟨w4.heap.size, 0, none⟩ = some (.int .i64 CU.1.1) := f5.cell_of (by go_simp)
  have c5_4_1 : w5.cell? ⟨w4.heap.size, 1, none⟩ = some (.int .i64 CU.1.2) := f5.cell_of (by go_simp)
  have y5_4 : w4.heap.size < w5.heap.size := World.block_lt_of_cell? w5 _ c5_4_0
  have IRS_5 := K.ints.ext (K.bin IRS_4) f5
  have IRL_5 := K.ints.ext (K.bin IRL_4) f5
  clear c4_0_0 c4_0_1 c4_0_2 y4_0 c4_1_0 c4_1_1 y4_1 c4_2_0 c4_2_1 y4_2 c4_3_0 c4_3_1 y4_3 IRS_4 IRL_4 F4 f5 u5_0_1 u5_1_1 u5_2_1 u5_3_1
  clear HISR HSSR HICU HSCU
  go_wp2_with fail
  refine K.call (by with_reducible rfl) (by with_reducible rfl) (DrawTransferTable_any _ hn (K.Ext.size (K.bex F5)) (h.ext (K.bex F5))) ?_
  rintro e w6 ⟨⟨Q, pQ, qQ, a, b, uF, fs, rfl, ⟨nQ, mQ⟩, ⟨iQ, aQ⟩, ⟨jQ, bQ⟩, nfs, hfs⟩, f6⟩
  have u6_0_1 : w1.heap.size < w5.heap.size + 1 := (by omega)
  have u6_1_1 : w1.heap.size + 1 < w5.heap.size + 1 := (by omega)
  have u6_2_1 : w2.heap.size < w5.heap.size + 1 := (by omega)
  have u6_3_1 : w3.heap.size < w5.heap.size + 1 := (by omega)
  have u6_4_1 : w4.heap.size < w5.heap.size + 1 := (by omega)
  have F6 : K.Ext w w6 := K.Ext.trans (K.bex F5) f6
  obtain ⟨c6_0_0, c6_0_1, c6_0_2, y6_0⟩ := f6.q3 c5_0_0 c5_0_1 c5_0_2
  obtain ⟨c6_1_0, c6_1_1, y6_1⟩ := f6.q2 c5_1_0 c5_1_1
  obtain ⟨c6_2_0, c6_2_1, y6_2⟩ := f6.q2 c5_2_0 c5_2_1
  obtain ⟨c6_3_0, c6_3_1, y6_3⟩ := f6.q2 c5_3_0 c5_3_1
  obtain ⟨c6_4_0, c6_4_1, y6_4⟩ := f6.q2 c5_4_0 c5_4_1
  have c6_5_0 : w6.cell? ⟨w5.heap.size, 0, none⟩ = some (.int .i64 CU.1.1) := f6.cell_of (by go_simp)
  have c6_5_1 : w6.cell? ⟨w5.heap.size, 1, none⟩ = some (.int .i64 CU.1.2) := f6.cell_of (by go_simp)
  have y6_5 : w5.heap.size < w6.heap.size := World.block_lt_of_cell? w6 _ c6_5_0
  clear c5_0_0 c5_0_1 c5_0_2 y5_0 c5_1_0 c5_1_1 y5_1 c5_2_0 c5_2_1 y5_2 c5_3_0 c5_3_1 y5_3 c5_4_0 c5_4_1 y5_4 F5 f6 u6_0_1 u6_1_1 u6_2_1 u6_3_1 u6_4_1
  obtain ⟨oQS, kQS, rfl, _⟩ := id iQ
  obtain ⟨oQL, kQL, rfl, _⟩ := id jQ
  have IQS_6 : K.ints w6 (w5.heap.size + 1) w6.heap.size (.slice oQS Q.st.length kQS) Q.st := iQ.mono (by simp) (Nat.le_refl _)
  have IQL_6 : K.ints w6 (w5.heap.size + 1) w6.heap.size (.slice oQL Q.sl.length kQL) Q.sl := jQ.mono (by simp) (Nat.le_refl _)
  clear iQ jQ
  obtain ⟨oF, kF, rfl, _⟩ := id hfs
  have IF_6 : K.recs false K.FgR w6 (w5.heap.size + 1) w6.heap.size (.slice oF fs.length kF) (fs) := K.recs.mono hfs (by first | omega | (simp; done) | (simp; omega)) (Nat.le_refl _)
  clear hfs
  obtain ⟨TT, eTT⟩ : ∃ x, Z.ttO Q a b fs = x := ⟨_, rfl⟩
  by_cases hT : TT.2 = 0
  · as_aux_lemma =>
      obtain ⟨t1, t2⟩ := Z.tt_ok (by rw [eTT]; exact hT)
      rw [eTT] at t1
      obtain ⟨g, hg⟩ : ∃ g, Z.trF a b = g := ⟨_, rfl⟩
      rw [hg] at t1 t2
      have HIT : Hid (∀ (W : World) {l1 h1 l2 h2 l3 h3 : Nat}, K.ints W l1 h1 (.slice oQS Q.st.length kQS) Q.st → K.ints W l2 h2 (.slice oQL Q.sl.length kQL) Q.sl → K.recs false K.FgR W l3 h3 (.slice oF fs.length kF) fs → Calls Tryz.prog 19 #[.agg #[.int .i64 Q.ln, .slice oQS Q.st.length kQS, .slice oQL Q.sl.length kQL], .int .i64 a, .int .i64 b, .slice oF fs.length kF] W fun e w'' => (∃ u, e = .returned (.tuple #[u, .int .i64 0]) ∧ K.recs false K.FgR w'' W.heap.size w''.heap.size u (fs.map g)) ∧ K.Ext W w'') := Z.hide (fun W {_ _ _ _ _ _} k1 k2 k3 => by have h_ := impl_TransferTable Q a b fs W (by omega) k1 aQ (by omega) k2 bQ (by omega) k3; rw [eTT, hT, t1] at h_; exact h_)
      have HST : Hid (∀ (W : World) {l1 h1 l2 h2 l3 h3 : Nat}, K.ints W l1 h1 (.slice oQS Q.st.length kQS) Q.st → K.ints W l2 h2 (.slice oQL Q.sl.length kQL) Q.sl → K.recs false K.FgR W l3 h3 (.slice oF fs.length kF) fs → Calls Tryz.prog 20 #[.agg #[.int .i64 Q.ln, .slice oQS Q.st.length kQS, .slice oQL Q.sl.length kQL], .int .i64 a, .int .i64 b, .slice oF fs.length kF] W fun e w'' => (∃ u, e = .returned (.tuple #[u, .int .i64 0]) ∧ K.recs false K.FgR w'' W.heap.size w''.heap.size u (fs.map g)) ∧ K.Ext W w'') := Z.hide (fun W {_ _ _ _ _ _} k1 k2 k3 => by have h_ := spec_TransferTable Q a b fs W (by omega) k1 aQ (by omega) k2 bQ (by omega) k3; rw [eTT, hT, t1] at h_; exact h_)
      go_wp2_with fail
      refine K.call (by with_reducible rfl) (by with_reducible rfl) (HIT.out _ (K.bin IQS_6) (K.bin IQL_6) (K.bre IF_6)) ?_
      rintro e w7 ⟨⟨u1, rfl, hu1⟩, f7⟩
      have u7_0_1 : w1.heap.size < w6.heap.size + 1 := (by omega)
      have u7_1_1 : w1.heap.size + 1 < w6.heap.size + 1 := (by omega)
      have u7_2_1 : w2.heap.size < w6.heap.size + 1 := (by omega)
      have u7_3_1 : w3.heap.size < w6.heap.size + 1 := (by omega)
      have u7_4_1 : w4.heap.size < w6.heap.size + 1 := (by omega)
      have u7_5_1 : w5.heap.size < w6.heap.size + 1 := (by omega)
      have F7 : K.Ext w w7 := K.Ext.trans (K.bex F6) f7
      obtain ⟨c7_0_0, c7_0_1, c7_0_2, y7_0⟩ := f7.q3 c6_0_0 c6_0_1 c6_0_2
      obtain ⟨c7_1_0, c7_1_1, y7_1⟩ := f7.q2 c6_1_0 c6_1_1
      obtain ⟨c7_2_0, c7_2_1, y7_2⟩ := f7.q2 c6_2_0 c6_2_1
      obtain ⟨c7_3_0, c7_3_1, y7_3⟩ := f7.q2 c6_3_0 c6_3_1
      obtain ⟨c7_4_0, c7_4_1, y7_4⟩ := f7.q2 c6_4_0 c6_4_1
      obtain ⟨c7_5_0, c7_5_1, y7_5⟩ := f7.q2 c6_5_0 c6_5_1
      have c7_6_0 : w7.cell? ⟨w6.heap.size, 0, none⟩ = some (.int .i64 Q.ln) := f7.cell_of (by go_simp)
      have c7_6_1 : w7.cell? ⟨w6.heap.size, 1, none⟩ = some (.slice oQS Q.st.length kQS) := f7.cell_of (by go_simp)
      have c7_6_2 : w7.cell? ⟨w6.heap.size, 2, none⟩ = some (.slice oQL Q.sl.length kQL) := f7.cell_of (by go_simp)
      have y7_6 : w6.heap.size < w7.heap.size := World.block_lt_of_cell? w7 _ c7_6_0
      have IQS_7 := K.ints.ext (K.bin IQS_6) f7
      have IQL_7 := K.ints.ext (K.bin IQL_6) f7
      have IF_7 := K.recs.ext (K.bre IF_6) f7
      clear c6_0_0 c6_0_1 c6_0_2 y6_0 c6_1_0 c6_1_1 y6_1 c6_2_0 c6_2_1 y6_2 c6_3_0 c6_3_1 y6_3 c6_4_0 c6_4_1 y6_4 c6_5_0 c6_5_1 y6_5 IQS_6 IQL_6 IF_6 F6 f7 u7_0_1 u7_1_1 u7_2_1 u7_3_1 u7_4_1 u7_5_1
      obtain ⟨o1, k1, hv1, _⟩ := id hu1
      rw [List.length_map] at hv1
      subst hv1
      have IU_7 : K.recs false K.FgR w7 (w6.heap.size + 1) w7.heap.size (.slice o1 fs.length k1) (fs.map g) := K.recs.mono hu1 (by first | omega | (simp; done) | (simp; omega)) (Nat.le_refl _)
      clear hu1
      go_wp2_with fail
      refine K.call (by with_reducible rfl) (by with_reducible rfl) (HST.out _ (K.bin IQS_7) (K.bin IQL_7) (K.bre IF_7)) ?_
      rintro e w8 ⟨⟨u2, rfl, hu2⟩, f8⟩
      have F8 : K.Ext w w8 := K.Ext.trans (K.bex F7) f8
      obtain ⟨c8_0_0, c8_0_1, c8_0_2, y8_0⟩ := f8.q3 c7_0_0 c7_0_1 c7_0_2
      obtain ⟨c8_1_0, c8_1_1, y8_1⟩ := f8.q2 c7_1_0 c7_1_1
      obtain ⟨c8_2_0, c8_2_1, y8_2⟩ := f8.q2 c7_2_0 c7_2_1
      obtain ⟨c8_3_0, c8_3_1, y8_3⟩ := f8.q2 c7_3_0 c7_3_1
      obtain ⟨c8_4_0, c8_4_1, y8_4⟩ := f8.q2 c7_4_0 c7_4_1
      obtain ⟨c8_5_0, c8_5_1, y8_5⟩ := f8.q2 c7_5_0 c7_5_1
      obtain ⟨c8_6_0, c8_6_1, c8_6_2, y8_6⟩ := f8.q3 c7_6_0 c7_6_1 c7_6_2
      have IQS_8 := K.ints.ext (K.bin IQS_7) f8
      have IQL_8 := K.ints.ext (K.bin IQL_7) f8
      have IF_8 := K.recs.ext (K.bre IF_7) f8
      have IU_8 := K.recs.ext (K.bre IU_7) f8
      clear c7_0_0 c7_0_1 c7_0_2 y7_0 c7_1_0 c7_1_1 y7_1 c7_2_0 c7_2_1 y7_2 c7_3_0 c7_3_1 y7_3 c7_4_0 c7_4_1 y7_4 c7_5_0 c7_5_1 y7_5 c7_6_0 c7_6_1 c7_6_2 y7_6 IQS_7 IQL_7 IF_7 IU_7 F7 f8
      obtain ⟨o2, k2, hv2, _⟩ := id hu2
      rw [List.length_map] at hv2
      subst hv2
      have IV_8 : K.recs false K.FgR w8 (w7.heap.size) w8.heap.size (.slice o2 fs.length k2) (fs.map g) := K.recs.mono hu2 (by first | omega | (simp; done) | (simp; omega)) (Nat.le_refl _)
      clear hu2
      clear HIT HST
      go_wp2_with fail
      refine K.call (by with_reducible rfl) (by with_reducible rfl) (likeFigures_same (fs.map g) _ _ _ _ _ _ _ (by first | (simp; done) | (simp; omega)) (K.bre IU_8) (K.bre IV_8)) ?_
      rintro e w9 ⟨rfl, f9⟩
      have F9 : K.Ext w w9 := K.Ext.trans (K.bex F8) f9
      obtain ⟨c9_0_0, c9_0_1, c9_0_2, y9_0⟩ := f9.q3 c8_0_0 c8_0_1 c8_0_2
      obtain ⟨c9_1_0, c9_1_1, y9_1⟩ := f9.q2 c8_1_0 c8_1_1
      obtain ⟨c9_2_0, c9_2_1, y9_2⟩ := f9.q2 c8_2_0 c8_2_1
      obtain ⟨c9_3_0, c9_3_1, y9_3⟩ := f9.q2 c8_3_0 c8_3_1
      obtain ⟨c9_4_0, c9_4_1, y9_4⟩ := f9.q2 c8_4_0 c8_4_1
      obtain ⟨c9_5_0, c9_5_1, y9_5⟩ := f9.q2 c8_5_0 c8_5_1
      obtain ⟨c9_6_0, c9_6_1, c9_6_2, y9_6⟩ := f9.q3 c8_6_0 c8_6_1 c8_6_2
      have IQS_9 := K.ints.ext (K.bin IQS_8) f9
      have IQL_9 := K.ints.ext (K.bin IQL_8) f9
      have IF_9 := K.recs.ext (K.bre IF_8) f9
      have IU_9 := K.recs.ext (K.bre IU_8) f9
      have IV_9 := K.recs.ext (K.bre IV_8) f9
      clear c8_0_0 c8_0_1 c8_0_2 y8_0 c8_1_0 c8_1_1 y8_1 c8_2_0 c8_2_1 y8_2 c8_3_0 c8_3_1 y8_3 c8_4_0 c8_4_1 y8_4 c8_5_0 c8_5_1 y8_5 c8_6_0 c8_6_1 c8_6_2 y8_6 IQS_8 IQL_8 IF_8 IU_8 IV_8 F8 f9
      have HTF : Hid (∀ (k : Nat) (hk : k < fs.length) (W : World) {l1 h1 l2 h2 : Nat}, K.ints W l1 h1 (.slice oQS Q.st.length kQS) Q.st → K.ints W l2 h2 (.slice oQL Q.sl.length kQL) Q.sl → Calls Tryz.prog 22 #[.agg #[.int .i64 Q.ln, .slice oQS Q.st.length kQS, .slice oQL Q.sl.length kQL], .int .i64 a, .int .i64 b, .agg #[.int .i64 (fs[k]'hk).1, .int .i64 (fs[k]'hk).2]] W fun e w'' => e = .returned (.tuple #[.agg #[.int .i64 (g (fs[k]'hk)).1, .int .i64 (g (fs[k]'hk)).2], .int .i64 0]) ∧ K.Ext W w'') := Z.hide (fun k hk W {_ _ _ _} k1 k2 => by have h_ := impl_TransferFigure Q a b (fs[k]'hk) W (by omega) k1 aQ (by omega) k2 bQ; rw [t2 k hk] at h_; exact h_)
      clear t1 t2 hg eTT hT
      go_wp2_with fail
      go_loopw [21] (fun i wr => ∃ k : Nat, k ≤ fs.length ∧ i = .int .i64 k ∧ Hid (K.Ext w9 wr)) (fun i _ => fs.length - (intOf i).toNat)
      case atStart => exact ⟨0, Nat.zero_le _, rfl, Z.hide (K.Ext.refl _)⟩
      case round =>
        obtain ⟨k, hk, rfl, HX⟩ := hrel
        have XR : K.Ext w wr := K.Ext.trans F9 HX.out
        have cr_1_0 := HX.out.cell_of c9_1_0
        have cr_1_1 := HX.out.cell_of c9_1_1
        have yr_1 : w1.heap.size + 1 < wr.heap.size := World.block_lt_of_cell? wr _ cr_1_0
        have cr_2_0 := HX.out.cell_of c9_2_0
        have cr_2_1 := HX.out.cell_of c9_2_1
        have yr_2 : w2.heap.size < wr.heap.size := World.block_lt_of_cell? wr _ cr_2_0
        have cr_6_0 := HX.out.cell_of c9_6_0
        have cr_6_1 := HX.out.cell_of c9_6_1
        have cr_6_2 := HX.out.cell_of c9_6_2
        have yr_6 : w6.heap.size < wr.heap.size := World.block_lt_of_cell? wr _ cr_6_0
        have IQS_r := K.ints.ext IQS_9 HX.out
        have IQL_r := K.ints.ext IQL_9 HX.out
        have IF_r := K.recs.ext IF_9 HX.out
        have IU_r := K.recs.ext IU_9 HX.out
        have IV_r := K.recs.ext IV_9 HX.out
        clear c9_0_0 c9_0_1 c9_0_2 y9_0 c9_1_0 c9_1_1 y9_1 c9_2_0 c9_2_1 y9_2 c9_3_0 c9_3_1 y9_3 c9_4_0 c9_4_1 y9_4 c9_5_0 c9_5_1 y9_5 c9_6_0 c9_6_1 c9_6_2 y9_6 IQS_9 IQL_9 IF_9 IU_9 IV_9 F9
        have k0 : (0 : Int) ≤ (k : Int) := Int.natCast_nonneg k
        by_cases hlt : k < fs.length
        · as_aux_lemma =>
            have i1 : (k : Int) < (fs.length : Int) := by omega
            obtain ⟨ba, offa, rfl, _, _, hca, _⟩ := K.recs_at IF_r (by omega)
            obtain ⟨bt, offt, rfl, _, _, hct, _⟩ := K.recs_at IU_r (by rw [List.length_map]; omega)
            have v0 : wr.cell? ⟨ba, offa + k * 2, none⟩ = some (.int .i64 (fs[k]'hlt).1) := hca k hlt 0 (by decide)
            have v1 : wr.cell? ⟨ba, offa + k * 2 + 1, none⟩ = some (.int .i64 (fs[k]'hlt).2) := hca k hlt 1 (by decide)
            have eg : (fs.map g)[k]'(by rw [List.length_map]; exact hlt) = g (fs[k]'hlt) := List.getElem_map ..
            have u0 : wr.cell? ⟨bt, offt + k * 2, none⟩ = some (.int .i64 (g (fs[k]'hlt)).1) := by rw [← eg]; exact hct k (by rw [List.length_map]; exact hlt) 0 (by decide)
            have u1 : wr.cell? ⟨bt, offt + k * 2 + 1, none⟩ = some (.int .i64 (g (fs[k]'hlt)).2) := by rw [← eg]; exact hct k (by rw [List.length_map]; exact hlt) 1 (by decide)
            have lba : ba < wr.heap.size := World.block_lt_of_cell? wr _ v0
            have lbt : bt < wr.heap.size := World.block_lt_of_cell? wr _ u0
            have HTK := Z.hide (HTF.out k hlt)
            have J1 := IQS_r
            have J2 := IQL_r
            clear hca hct eg HTF IQS_r IQL_r IF_r IU_r IV_r
            generalize (fs[k]'hlt) = y at *
            generalize g y = z at *
            go_wp2_with fail
            refine K.wp_region_x 12 [1, 0, 0, 0, 0, 0, 1, 2, 0, 0, 0, 2] [K.SP.any, K.SP.any, K.SP.any, K.SP.any, K.SP.any, K.SP.any, K.SP.any, K.SP.is (.tuple #[.agg #[.int .i64 z.1, .int .i64 z.2], .int .i64 0]), K.SP.any, K.SP.any, K.SP.any, K.SP.new (wr.heap.size) (.cells #[.int .i64 0, .int .i64 0] 32)] (by kernel_rfl) (by kernel_rfl) ?_
            simp only [List.take_succ_cons, List.take_zero, List.drop_succ_cons, List.drop_zero]
            refine K.xh ?_
            simp only [Act.put, List.setIfInBounds_toArray, List.set]
            iterate 5
              refine K.xp ?_
              simp only [Act.put, List.setIfInBounds_toArray, List.set]
            refine K.xh ?_
            simp only [Act.put, List.setIfInBounds_toArray, List.set]
            apply K.x_call_is
            · rfl
            · rfl
            · rfl
            · intro w'; go_simp; first | done | rfl | exact ⟨rfl, rfl⟩
            · intro w' hx hp; have hc := hx.all.1.1; have hf := hx.all.1.2; have hc' := hx.all.2.1; have hf' := hx.all.2.2; exact HTK.out _ (K.ints.ext (K.ints.drew J1) hx) (K.ints.ext (K.ints.drew J2) hx)
            intro w_7_ hx_7_
            simp only [Act.put, List.setIfInBounds_toArray, List.set]
            iterate 3
              refine K.xp ?_
              simp only [Act.put, List.setIfInBounds_toArray, List.set]
            apply K.x_new
            · rfl
            · rfl
            · rfl
            · go_simp; first | done | omega
            · intro w'; go_simp; first | done | rfl | exact ⟨rfl, rfl⟩
            intro g16_11 w_11_ hx_11_ hg16_11 hb_11_
            simp only [Act.put, List.setIfInBounds_toArray, List.set]
            apply K.x_done
            intro wa h_x
            have hxa := hx_7_.trans (hx_11_.trans h_x)
            have hb16_11 := K.Ext.block (h_x) hb_11_
            have cg16_11_0 : wa.cell? ⟨g16_11, 0, none⟩ = some (.int .i64 0) := K.cell_at hb16_11 rfl
            have fg16_11_0 : wa.frozen? ⟨g16_11, 0, none⟩ = false := K.thaw_at hb16_11
            have cg16_11_1 : wa.cell? ⟨g16_11, 1, none⟩ = some (.int .i64 0) := K.cell_at hb16_11 rfl
            have fg16_11_1 : wa.frozen? ⟨g16_11, 1, none⟩ = false := K.thaw_at hb16_11
            clear h_x hx_7_ hx_11_
            obtain ⟨⟨hcwa, hfwa⟩, hc'wa, hf'wa⟩ := hxa.all
            go_wp2_with fail
            refine NoPanic.normal ?_
            have HA : Hid (K.Ext wr wa) := Z.hide (by first | exact hxa | exact K.Ext.trans (K.Ext.refl _).drew hxa)
            have va0 := HA.out.cell_of v0
            have va1 := HA.out.cell_of v1
            have ua0 := HA.out.cell_of u0
            have ua1 := HA.out.cell_of u1
            have ca_1_0 := HA.out.cell_of cr_1_0
            have ca_1_1 := HA.out.cell_of cr_1_1
            have ca_2_0 := HA.out.cell_of cr_2_0
            have ca_2_1 := HA.out.cell_of cr_2_1
            have ca_6_0 := HA.out.cell_of cr_6_0
            have ca_6_1 := HA.out.cell_of cr_6_1
            have ca_6_2 := HA.out.cell_of cr_6_2
            have ng_ba : ¬ (g16_11 = ba) := by omega
            have nh_ba : ¬ (ba = g16_11) := by omega
            have ng_bt : ¬ (g16_11 = bt) := by omega
            have nh_bt : ¬ (bt = g16_11) := by omega
            go_wp2_with fail
            have cs0 : ((wa.setCell ⟨g16_11, 0, none⟩ (.int .i64 z.1)).setCell ⟨g16_11, 1, none⟩ (.int .i64 z.2)).cell? ⟨g16_11, 0, none⟩ = some (.int .i64 z.1) := by go_simp
            have cs1 : ((wa.setCell ⟨g16_11, 0, none⟩ (.int .i64 z.1)).setCell ⟨g16_11, 1, none⟩ (.int .i64 z.2)).cell? ⟨g16_11, 1, none⟩ = some (.int .i64 z.2) := by go_simp
            have us0 : ((wa.setCell ⟨g16_11, 0, none⟩ (.int .i64 z.1)).setCell ⟨g16_11, 1, none⟩ (.int .i64 z.2)).cell? ⟨bt, offt + k * 2, none⟩ = some (.int .i64 z.1) := by go_simp
            have us1 : ((wa.setCell ⟨g16_11, 0, none⟩ (.int .i64 z.1)).setCell ⟨g16_11, 1, none⟩ (.int .i64 z.2)).cell? ⟨bt, offt + k * 2 + 1, none⟩ = some (.int .i64 z.2) := by go_simp
            have HS : Hid (K.Ext wr ((wa.setCell ⟨g16_11, 0, none⟩ (.int .i64 z.1)).setCell ⟨g16_11, 1, none⟩ (.int .i64 z.2))) := Z.hide (K.Ext.setCell (K.Ext.setCell HA.out (by (try dsimp only); omega) _) (by (try dsimp only); omega) _)
            generalize ((wa.setCell ⟨g16_11, 0, none⟩ (.int .i64 z.1)).setCell ⟨g16_11, 1, none⟩ (.int .i64 z.2)) = ws at *
            refine K.wp_region_x 17 [0, 0, 0, 0, 0, 0, 0, 0, 0, 0, 1, 0, 0, 0, 1, 0, 0] [] (by kernel_rfl) (by kernel_rfl) ?_
            simp only [List.take_succ_cons, List.take_zero, List.drop_succ_cons, List.drop_zero]
            iterate 10
              refine K.xp ?_
              simp only [Act.put, List.setIfInBounds_toArray, List.set]
            refine K.xh ?_
            simp only [Act.put, List.setIfInBounds_toArray, List.set]
            iterate 3
              refine K.xp ?_
              simp only [Act.put, List.setIfInBounds_toArray, List.set]
            refine K.xh ?_
            simp only [Act.put, List.setIfInBounds_toArray, List.set]
            iterate 2
              refine K.xp ?_
              simp only [Act.put, List.setIfInBounds_toArray, List.set]
            apply K.x_done
            intro wb h_x
            have hxb := K.Ext.id h_x
            clear h_x
            obtain ⟨⟨hcwb, hfwb⟩, hc'wb, hf'wb⟩ := hxb.all
            refine wpList_nil ?_
            refine NoPanic.normal ?_
            have HB : Hid (K.Ext wr wb) := Z.hide (K.Ext.trans HS.out (by first | exact hxb | exact K.Ext.trans (K.Ext.refl _).drew hxb))
            go_wp2
            go_roundw
            case rel => exact ⟨k + 1, Nat.succ_le_of_lt hlt, by go_num, Z.hide (K.Ext.trans HX.out HB.out)⟩
            case measure => simp only [intOf]; omega
        · as_aux_lemma =>
            obtain rfl : k = fs.length := by omega
            by_cases hs : SR.2 = 0
            · obtain ⟨h3, h6⟩ := HRL hs
              go_wp2_with fail
              refine K.call (by with_reducible rfl) (by with_reducible rfl) (HMQ.out _) ?_
              rintro e w10 ⟨rfl, f10⟩
              have F10 : K.Ext w w10 := K.Ext.trans (K.bex XR) f10
              have c10_1_0 : w10.cell? ⟨w1.heap.size + 1, 0, none⟩ = some (.int .i64 f.1) := f10.cell_of (by go_simp)
              have c10_1_1 : w10.cell? ⟨w1.heap.size + 1, 1, none⟩ = some (.int .i64 f.2) := f10.cell_of (by go_simp)
              have y10_1 : w1.heap.size + 1 < w10.heap.size := World.block_lt_of_cell? w10 _ c10_1_0
              have c10_2_0 : w10.cell? ⟨w2.heap.size, 0, none⟩ = some (.int .i64 SR.1.1) := f10.cell_of (by go_simp)
              have c10_2_1 : w10.cell? ⟨w2.heap.size, 1, none⟩ = some (.int .i64 SR.1.2) := f10.cell_of (by go_simp)
              have y10_2 : w2.heap.size < w10.heap.size := World.block_lt_of_cell? w10 _ c10_2_0
              have c10_6_0 : w10.cell? ⟨w6.heap.size, 0, none⟩ = some (.int .i64 Q.ln) := f10.cell_of (by go_simp)
              have c10_6_1 : w10.cell? ⟨w6.heap.size, 1, none⟩ = some (.slice oQS Q.st.length kQS) := f10.cell_of (by go_simp)
              have c10_6_2 : w10.cell? ⟨w6.heap.size, 2, none⟩ = some (.slice oQL Q.sl.length kQL) := f10.cell_of (by go_simp)
              have y10_6 : w6.heap.size < w10.heap.size := World.block_lt_of_cell? w10 _ c10_6_0
              clear cr_1_0 cr_1_1 yr_1 cr_2_0 cr_2_1 yr_2 cr_6_0 cr_6_1 cr_6_2 yr_6 XR f10
              by_cases hm : MQ.2 = 0
              · obtain ⟨h7, h8⟩ := h6 hm
                go_wp2_with fail
                refine K.call (by with_reducible rfl) (by with_reducible rfl) (HRX.out _) ?_
                rintro e w11 ⟨rfl, f11⟩
                have u11_1_1 : w1.heap.size + 1 < w10.heap.size + 1 := (by omega)
                have u11_2_1 : w2.heap.size < w10.heap.size + 1 := (by omega)
                have u11_6_1 : w6.heap.size < w10.heap.size + 1 := (by omega)
                have F11 : K.Ext w w11 := K.Ext.trans (K.bex F10) f11
                obtain ⟨c11_1_0, c11_1_1, y11_1⟩ := f11.q2 c10_1_0 c10_1_1
                obtain ⟨c11_2_0, c11_2_1, y11_2⟩ := f11.q2 c10_2_0 c10_2_1
                obtain ⟨c11_6_0, c11_6_1, c11_6_2, y11_6⟩ := f11.q3 c10_6_0 c10_6_1 c10_6_2
                have c11_7_0 : w11.cell? ⟨w10.heap.size, 0, none⟩ = some (.int .i64 MQ.1.1) := f11.cell_of (by go_simp)
                have c11_7_1 : w11.cell? ⟨w10.heap.size, 1, none⟩ = some (.int .i64 MQ.1.2) := f11.cell_of (by go_simp)
                have y11_7 : w10.heap.size < w11.heap.size := World.block_lt_of_cell? w11 _ c11_7_0
                clear c10_1_0 c10_1_1 y10_1 c10_2_0 c10_2_1 y10_2 c10_6_0 c10_6_1 c10_6_2 y10_6 F10 f11 u11_1_1 u11_2_1 u11_6_1
                go_wp2_with fail
                go_ret
                exact ⟨rfl, (K.bex F11)⟩
              have hm' : (MQ.2 == 0) = false := by simpa using hm
              have hm3 := h3 hm
              go_wp2_with fail
              go_ret
              exact ⟨rfl, (K.bex F10)⟩
            have hs' : (SR.2 == 0) = false := by simpa using hs
            go_wp2_with fail
            go_ret
            exact ⟨rfl, (K.bex XR)⟩
  · as_aux_lemma =>
      have t1 := Z.tt_bad (by rw [eTT]; exact hT)
      rw [eTT] at t1
      have HIT : Hid (∀ (W : World) {l1 h1 l2 h2 l3 h3 : Nat}, K.ints W l1 h1 (.slice oQS Q.st.length kQS) Q.st → K.ints W l2 h2 (.slice oQL Q.sl.length kQL) Q.sl → K.recs false K.FgR W l3 h3 (.slice oF fs.length kF) fs → Calls Tryz.prog 19 #[.agg #[.int .i64 Q.ln, .slice oQS Q.st.length kQS, .slice oQL Q.sl.length kQL], .int .i64 a, .int .i64 b, .slice oF fs.length kF] W fun e w'' => (∃ u, e = .returned (.tuple #[u, .int .i64 TT.2]) ∧ K.recs false K.FgR w'' W.heap.size w''.heap.size u ([])) ∧ K.Ext W w'') := Z.hide (fun W {_ _ _ _ _ _} k1 k2 k3 => by have h_ := impl_TransferTable Q a b fs W (by omega) k1 aQ (by omega) k2 bQ (by omega) k3; rw [eTT, t1] at h_; exact h_)
      have HST : Hid (∀ (W : World) {l1 h1 l2 h2 l3 h3 : Nat}, K.ints W l1 h1 (.slice oQS Q.st.length kQS) Q.st → K.ints W l2 h2 (.slice oQL Q.sl.length kQL) Q.sl → K.recs false K.FgR W l3 h3 (.slice oF fs.length kF) fs → Calls Tryz.prog 20 #[.agg #[.int .i64 Q.ln, .slice oQS Q.st.length kQS, .slice oQL Q.sl.length kQL], .int .i64 a, .int .i64 b, .slice oF fs.length kF] W fun e w'' => (∃ u, e = .returned (.tuple #[u, .int .i64 TT.2]) ∧ K.recs false K.FgR w'' W.heap.size w''.heap.size u ([])) ∧ K.Ext W w'') := Z.hide (fun W {_ _ _ _ _ _} k1 k2 k3 => by have h_ := spec_TransferTable Q a b fs W (by omega) k1 aQ (by omega) k2 bQ (by omega) k3; rw [eTT, t1] at h_; exact h_)
      go_wp2_with fail
      refine K.call (by with_reducible rfl) (by with_reducible rfl) (HIT.out _ (K.bin IQS_6) (K.bin IQL_6) (K.bre IF_6)) ?_
      rintro e w7 ⟨⟨u1, rfl, hu1⟩, f7⟩
      have u7_0_1 : w1.heap.size < w6.heap.size + 1 := (by omega)
      have u7_1_1 : w1.heap.size + 1 < w6.heap.size + 1 := (by omega)
      have u7_2_1 : w2.heap.size < w6.heap.size + 1 := (by omega)
      have u7_3_1 : w3.heap.size < w6.heap.size + 1 := (by omega)
      have u7_4_1 : w4.heap.size < w6.heap.size + 1 := (by omega)
      have u7_5_1 : w5.heap.size < w6.heap.size + 1 := (by omega)
      have F7 : K.Ext w w7 := K.Ext.trans (K.bex F6) f7
      obtain ⟨c7_0_0, c7_0_1, c7_0_2, y7_0⟩ := f7.q3 c6_0_0 c6_0_1 c6_0_2
      obtain ⟨c7_1_0, c7_1_1, y7_1⟩ := f7.q2 c6_1_0 c6_1_1
      obtain ⟨c7_2_0, c7_2_1, y7_2⟩ := f7.q2 c6_2_0 c6_2_1
      obtain ⟨c7_3_0, c7_3_1, y7_3⟩ := f7.q2 c6_3_0 c6_3_1
      obtain ⟨c7_4_0, c7_4_1, y7_4⟩ := f7.q2 c6_4_0 c6_4_1
      obtain ⟨c7_5_0, c7_5_1, y7_5⟩ := f7.q2 c6_5_0 c6_5_1
      have c7_6_0 : w7.cell? ⟨w6.heap.size, 0, none⟩ = some (.int .i64 Q.ln) := f7.cell_of (by go_simp)
      have c7_6_1 : w7.cell? ⟨w6.heap.size, 1, none⟩ = some (.slice oQS Q.st.length kQS) := f7.cell_of (by go_simp)
      have c7_6_2 : w7.cell? ⟨w6.heap.size, 2, none⟩ = some (.slice oQL Q.sl.length kQL) := f7.cell_of (by go_simp)
      have y7_6 : w6.heap.size < w7.heap.size := World.block_lt_of_cell? w7 _ c7_6_0
      have IQS_7 := K.ints.ext (K.bin IQS_6) f7
      have IQL_7 := K.ints.ext (K.bin IQL_6) f7
      have IF_7 := K.recs.ext (K.bre IF_6) f7
      clear c6_0_0 c6_0_1 c6_0_2 y6_0 c6_1_0 c6_1_1 y6_1 c6_2_0 c6_2_1 y6_2 c6_3_0 c6_3_1 y6_3 c6_4_0 c6_4_1 y6_4 c6_5_0 c6_5_1 y6_5 IQS_6 IQL_6 IF_6 F6 f7 u7_0_1 u7_1_1 u7_2_1 u7_3_1 u7_4_1 u7_5_1
      obtain ⟨o1, k1, hv1, _⟩ := id hu1
      rw [List.length_nil] at hv1
      subst hv1
      have IU_7 : K.recs false K.FgR w7 (w6.heap.size + 1) w7.heap.size (.slice o1 0 k1) ([]) := K.recs.mono hu1 (by first | omega | (simp; done) | (simp; omega)) (Nat.le_refl _)
      clear hu1
      go_wp2_with fail
      refine K.call (by with_reducible rfl) (by with_reducible rfl) (HST.out _ (K.bin IQS_7) (K.bin IQL_7) (K.bre IF_7)) ?_
      rintro e w8 ⟨⟨u2, rfl, hu2⟩, f8⟩
      have F8 : K.Ext w w8 := K.Ext.trans (K.bex F7) f8
      obtain ⟨c8_0_0, c8_0_1, c8_0_2, y8_0⟩ := f8.q3 c7_0_0 c7_0_1 c7_0_2
      obtain ⟨c8_1_0, c8_1_1, y8_1⟩ := f8.q2 c7_1_0 c7_1_1
      obtain ⟨c8_2_0, c8_2_1, y8_2⟩ := f8.q2 c7_2_0 c7_2_1
      obtain ⟨c8_3_0, c8_3_1, y8_3⟩ := f8.q2 c7_3_0 c7_3_1
      obtain ⟨c8_4_0, c8_4_1, y8_4⟩ := f8.q2 c7_4_0 c7_4_1
      obtain ⟨c8_5_0, c8_5_1, y8_5⟩ := f8.q2 c7_5_0 c7_5_1
      obtain ⟨c8_6_0, c8_6_1, c8_6_2, y8_6⟩ := f8.q3 c7_6_0 c7_6_1 c7_6_2
      have IQS_8 := K.ints.ext (K.bin IQS_7) f8
      have IQL_8 := K.ints.ext (K.bin IQL_7) f8
      have IF_8 := K.recs.ext (K.bre IF_7) f8
      have IU_8 := K.recs.ext (K.bre IU_7) f8
      clear c7_0_0 c7_0_1 c7_0_2 y7_0 c7_1_0 c7_1_1 y7_1 c7_2_0 c7_2_1 y7_2 c7_3_0 c7_3_1 y7_3 c7_4_0 c7_4_1 y7_4 c7_5_0 c7_5_1 y7_5 c7_6_0 c7_6_1 c7_6_2 y7_6 IQS_7 IQL_7 IF_7 IU_7 F7 f8
      obtain ⟨o2, k2, hv2, _⟩ := id hu2
      rw [List.length_nil] at hv2
      subst hv2
      have IV_8 : K.recs false K.FgR w8 (w7.heap.size) w8.heap.size (.slice o2 0 k2) ([]) := K.recs.mono hu2 (by first | omega | (simp; done) | (simp; omega)) (Nat.le_refl _)
      clear hu2
      clear HIT HST
      go_wp2_with fail
      refine K.call (by with_reducible rfl) (by with_reducible rfl) (likeFigures_same ([]) _ _ _ _ _ _ _ (by first | (simp; done) | (simp; omega)) (K.bre IU_8) (K.bre IV_8)) ?_
      rintro e w9 ⟨rfl, f9⟩
      have F9 : K.Ext w w9 := K.Ext.trans (K.bex F8) f9
      obtain ⟨c9_0_0, c9_0_1, c9_0_2, y9_0⟩ := f9.q3 c8_0_0 c8_0_1 c8_0_2
      obtain ⟨c9_1_0, c9_1_1, y9_1⟩ := f9.q2 c8_1_0 c8_1_1
      obtain ⟨c9_2_0, c9_2_1, y9_2⟩ := f9.q2 c8_2_0 c8_2_1
      obtain ⟨c9_3_0, c9_3_1, y9_3⟩ := f9.q2 c8_3_0 c8_3_1
      obtain ⟨c9_4_0, c9_4_1, y9_4⟩ := f9.q2 c8_4_0 c8_4_1
      obtain ⟨c9_5_0, c9_5_1, y9_5⟩ := f9.q2 c8_5_0 c8_5_1
      obtain ⟨c9_6_0, c9_6_1, c9_6_2, y9_6⟩ := f9.q3 c8_6_0 c8_6_1 c8_6_2
      have IQS_9 := K.ints.ext (K.bin IQS_8) f9
      have IQL_9 := K.ints.ext (K.bin IQL_8) f9
      have IF_9 := K.recs.ext (K.bre IF_8) f9
      have IU_9 := K.recs.ext (K.bre IU_8) f9
      have IV_9 := K.recs.ext (K.bre IV_8) f9
      clear c8_0_0 c8_0_1 c8_0_2 y8_0 c8_1_0 c8_1_1 y8_1 c8_2_0 c8_2_1 y8_2 c8_3_0 c8_3_1 y8_3 c8_4_0 c8_4_1 y8_4 c8_5_0 c8_5_1 y8_5 c8_6_0 c8_6_1 c8_6_2 y8_6 IQS_8 IQL_8 IF_8 IU_8 IV_8 F8 f9
      have hT' : (TT.2 == 0) = false := by simpa using hT
      clear t1 eTT
      go_wp2_with fail
      go_loopw [21] (fun i wr => i = .int .i64 0 ∧ Hid (K.Ext w9 wr)) (fun _ _ => 0)
      case atStart => exact ⟨rfl, Z.hide (K.Ext.refl _)⟩
      case round =>
        obtain ⟨rfl, HX⟩ := hrel
        have XR : K.Ext w wr := K.Ext.trans F9 HX.out
        have cr_1_0 := HX.out.cell_of c9_1_0
        have cr_1_1 := HX.out.cell_of c9_1_1
        have yr_1 : w1.heap.size + 1 < wr.heap.size := World.block_lt_of_cell? wr _ cr_1_0
        have cr_2_0 := HX.out.cell_of c9_2_0
        have cr_2_1 := HX.out.cell_of c9_2_1
        have yr_2 : w2.heap.size < wr.heap.size := World.block_lt_of_cell? wr _ cr_2_0
        have IQS_r := K.ints.ext IQS_9 HX.out
        have IQL_r := K.ints.ext IQL_9 HX.out
        have IF_r := K.recs.ext IF_9 HX.out
        have IU_r := K.recs.ext IU_9 HX.out
        have IV_r := K.recs.ext IV_9 HX.out
        clear c9_0_0 c9_0_1 c9_0_2 y9_0 c9_1_0 c9_1_1 y9_1 c9_2_0 c9_2_1 y9_2 c9_3_0 c9_3_1 y9_3 c9_4_0 c9_4_1 y9_4 c9_5_0 c9_5_1 y9_5 c9_6_0 c9_6_1 c9_6_2 y9_6 IQS_9 IQL_9 IF_9 IU_9 IV_9 F9
        by_cases hs : SR.2 = 0
        · obtain ⟨h3, h6⟩ := HRL hs
          go_wp2_with fail
          refine K.call (by with_reducible rfl) (by with_reducible rfl) (HMQ.out _) ?_
          rintro e w10 ⟨rfl, f10⟩
          have F10 : K.Ext w w10 := K.Ext.trans (K.bex XR) f10
          have c10_1_0 : w10.cell? ⟨w1.heap.size + 1, 0, none⟩ = some (.int .i64 f.1) := f10.cell_of (by go_simp)
          have c10_1_1 : w10.cell? ⟨w1.heap.size + 1, 1, none⟩ = some (.int .i64 f.2) := f10.cell_of (by go_simp)
          have y10_1 : w1.heap.size + 1 < w10.heap.size := World.block_lt_of_cell? w10 _ c10_1_0
          have c10_2_0 : w10.cell? ⟨w2.heap.size, 0, none⟩ = some (.int .i64 SR.1.1) := f10.cell_of (by go_simp)
          have c10_2_1 : w10.cell? ⟨w2.heap.size, 1, none⟩ = some (.int .i64 SR.1.2) := f10.cell_of (by go_simp)
          have y10_2 : w2.heap.size < w10.heap.size := World.block_lt_of_cell? w10 _ c10_2_0
          clear cr_1_0 cr_1_1 yr_1 cr_2_0 cr_2_1 yr_2 XR f10
          by_cases hm : MQ.2 = 0
          · obtain ⟨h7, h8⟩ := h6 hm
            go_wp2_with fail
            refine K.call (by with_reducible rfl) (by with_reducible rfl) (HRX.out _) ?_
            rintro e w11 ⟨rfl, f11⟩
            have u11_1_1 : w1.heap.size + 1 < w10.heap.size + 1 := (by omega)
            have u11_2_1 : w2.heap.size < w10.heap.size + 1 := (by omega)
            have F11 : K.Ext w w11 := K.Ext.trans (K.bex F10) f11
            obtain ⟨c11_1_0, c11_1_1, y11_1⟩ := f11.q2 c10_1_0 c10_1_1
            obtain ⟨c11_2_0, c11_2_1, y11_2⟩ := f11.q2 c10_2_0 c10_2_1
            have c11_7_0 : w11.cell? ⟨w10.heap.size, 0, none⟩ = some (.int .i64 MQ.1.1) := f11.cell_of (by go_simp)
            have c11_7_1 : w11.cell? ⟨w10.heap.size, 1, none⟩ = some (.int .i64 MQ.1.2) := f11.cell_of (by go_simp)
            have y11_7 : w10.heap.size < w11.heap.size := World.block_lt_of_cell? w11 _ c11_7_0
            clear c10_1_0 c10_1_1 y10_1 c10_2_0 c10_2_1 y10_2 F10 f11 u11_1_1 u11_2_1
            go_wp2_with fail
            go_ret
            exact ⟨rfl, (K.bex F11)⟩
          have hm' : (MQ.2 == 0) = false := by simpa using hm
          have hm3 := h3 hm
          go_wp2_with fail
          go_ret
          exact ⟨rfl, (K.bex F10)⟩
        have hs' : (SR.2 == 0) = false := by simpa using hs
        go_wp2_with fail
        go_ret
        exact ⟨rfl, (K.bex XR)⟩
end Go.Proofs.YtimpcelbekhipaaGreat
end
section
namespace Go.Proofs.YtimpcelbekhipaaGreat
open Go.ChangeShapes Go.WideShapes Go.ChangeAt Go.RowKit
namespace frameFnRoots
theorem own : ownKnob Tryz.prog.godebug = none := by kernel_rfl
theorem laidOut : laidOutB Tryz.prog = true := by kernel_rfl
theorem reads : ∀ t ∈ Tryz.f4.params.toList, Tryz.prog.readableRec t = true ∧ t < Tryz.prog.types.size := by
  rw [Tryz.params4]
  intro t ht
  simp only [List.mem_cons, List.not_mem_nil, or_false] at ht
  subst ht; exact ⟨by kernel_rfl, of_decide_eq_true (by kernel_rfl)⟩
set_option maxRecDepth 100000 in
theorem lifted (os : Os) (started : os.Started) (H : Type) (enc : TypeId × Value → H) :
    ReturnsInHanded {} Tryz.checked os 4 .any (Rows.fnRootsSpec.pre6 enc Tryz.prog Tryz.f4 Rows.fnRootsRow.domain false) (Rows.fnRootsSpec.post enc Tryz.prog Tryz.f4 false true false false) := by
  refine returnsInHanded_of_change (C := Tryz.checked) own started (by kernel_rfl) Tryz.func4
    (ChangeSpec.witness6 (enc := enc) (C := Tryz.checked) false ⟨#[], #[.slice none 0 0], []⟩ 8 (by kernel_rfl) (by kernel_rfl) (by kernel_rfl) (by kernel_rfl)) ?_
  intro W base args ds gs before hval0 hW hcnd _
  have hval : ∀ (j : Nat) t v, Tryz.f4.params[j]? = some t → args[j]? = some v → Value.okWide Tryz.prog W .any base t v := hval0
  have hW' := hW
  obtain ⟨p, q, hA0, hV, rfl, hfz, hnd⟩ := hW
  have hA : DataW.TrodAll enc Tryz.prog W 0 (fun _ => true) true Tryz.f4.params.toList args.toList ds p := hA0
  rw [Tryz.params4] at hA hval
  obtain ⟨rfl, rfl⟩ := trodVars_none hV
  obtain ⟨v0, vs0, d0, ds0, p0, q0, hargs, rfl, rfl, h0, r0⟩ := trodAll_cons hA
  obtain ⟨rfl, rfl, rfl⟩ := trodAll_nil r0
  obtain rfl : args = #[v0] := by cases args; simp_all
  clear hA0 hval0
  obtain ⟨a0, l0, c0, rfl⟩ := okWide_slice Tryz.underlying36 (hval 0 36 v0 rfl rfl)
  obtain ⟨fu0, hf0⟩ := h0
  obtain ⟨x0, zs0, ex0, hx0, hl0, hq0⟩ := K.recs_arg (R := K.ByR) (Q := fun s => 0 ≤ s ∧ s ≤ 255) 0 (by decide) Tryz.underlying36 (by kernel_rfl) (fun n cs y hy => K.byte_cells Tryz.underlying5 hy) hf0
  obtain rfl : Value.slice a0 l0 c0 = x0 := by simpa [Value.cells] using ex0
  refine Calls.mono (law_FnRoots  W (K.byts_of_recs hx0 hq0)) fun e W' ⟨he, hg⟩ => ?_
  subst he
  exact ⟨_, rfl, K.law_post laidOut reads rfl Tryz.underlying4 rfl hW' rfl hg⟩
theorem over : Rows.fnRootsRow.holds Tryz.pinned (OpenSpec.ofChange Rows.fnRootsSpec) :=
  OpenClaim.holds_of_wide 4 Tryz.f4 rfl rfl rfl rfl rfl rfl rfl ⟨rfl, rfl, rfl, rfl, rfl⟩ rfl rfl rfl rfl rfl (by kernel_rfl) Tryz.func4 (by kernel_rfl)
    (of_decide_eq_true (by kernel_rfl)) (by unfold Func.isWrapper; first | (rw [if_pos (by decide +kernel)]; kernel_rfl) | (rw [if_neg (by decide +kernel)]; exact ⟨rfl, rfl⟩))
    (fun os started H enc _ => lifted os started H enc)
/-- The given statement. -/
theorem proved : Rows.FnRootsSaid := over
#print axioms proved
end frameFnRoots
end Go.Proofs.YtimpcelbekhipaaGreat
end
