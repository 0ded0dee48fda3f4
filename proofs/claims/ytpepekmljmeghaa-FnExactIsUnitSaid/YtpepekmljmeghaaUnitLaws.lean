/-
  THE LAWS ON UNITS: their walks.
-/
import Derived.Test.YtpepekmljmeghaaUnits4
set_option linter.unusedVariables false
namespace Go.Proofs.Ytpepekmljmeghaa
open Go.RowKit
set_option maxHeartbeats 1600000 in
theorem law_FnExactIsUnit (m0 : List Int) (v0 : Value) (w : World) (h0 : K.ints w 0 w.heap.size v0 m0) :
    Calls Try.prog 3 #[v0] w fun e w' => e = .returned (.bool true) ∧ K.Ext w w' := by
  have g0 := h0
  obtain ⟨o0, c0, rfl, _⟩ := g0
  by_cases hm0 : m0.length ≤ 1048576
  · skip
    have X0 := K.Ext.refl w
    have s0 : w.heap.size ≤ w.heap.size := Nat.le_refl _
    go_enter Try.func3, Try.ntmps3
    go_wp2_with (go_at_call 16; refine K.call (by with_reducible rfl) (by with_reducible rfl) (toInt64S_any m0 _ _ _ _ hm0 h0) ?_; rintro e w1 ⟨⟨a1, rfl, f1⟩, x1⟩)
    have X1 : K.Ext w w1 := X0.trans x1
    have s1 := x1.size
    replace h0 := h0.ext x1
    clear x1
    go_wp2_with (go_at_call 15; refine K.call (by with_reducible rfl) (by with_reducible rfl) (spec_IsUnit m0 _ _ _ _ hm0 f1.ints) ?_; rintro e w2 ⟨rfl, rfl⟩)
    go_wp2_with (go_at_call 16; refine K.call (by with_reducible rfl) (by with_reducible rfl) (toInt64S_any m0 _ _ _ _ hm0 h0) ?_; rintro e w3 ⟨⟨a3, rfl, f3⟩, x3⟩)
    have X3 : K.Ext w w3 := X1.trans x3
    have s3 := x3.size
    replace h0 := h0.ext x3
    replace f1 := f1.ext x3
    clear x3
    go_wp2_with (go_at_call 17; refine K.call (by with_reducible rfl) (by with_reducible rfl) (impl_IsUnit m0 _ _ _ _ hm0 f3.ints) ?_; rintro e w4 ⟨rfl, rfl⟩)
    go_wp2_with (go_at_call 16; refine K.call (by with_reducible rfl) (by with_reducible rfl) (toInt64S_any m0 _ _ _ _ hm0 h0) ?_; rintro e w5 ⟨⟨a5, rfl, f5⟩, x5⟩)
    have X5 : K.Ext w w5 := X3.trans x5
    have s5 := x5.size
    replace h0 := h0.ext x5
    replace f1 := f1.ext x5
    replace f3 := f3.ext x5
    clear x5
    go_wp2_with (go_at_call 18; refine K.call (by with_reducible rfl) (by with_reducible rfl) (eqInt64S_same m0 _ _ _ _ _ _ _ hm0 f3.ints f5.ints) ?_; rintro e w6 ⟨rfl, x6⟩)
    have X6 : K.Ext w w6 := X5.trans x6
    have s6 := x6.size
    replace h0 := h0.ext x6
    replace f1 := f1.ext x6
    replace f3 := f3.ext x6
    replace f5 := f5.ext x6
    clear x6
    go_ret
    exact ⟨rfl, X6⟩
  · go_enter Try.func3, Try.ntmps3
    go_wp2_with fail
    go_ret
    exact ⟨rfl, K.Ext.refl _⟩
set_option maxHeartbeats 1600000 in
theorem law_FnExactMultiplyUnits (m0 : List Int) (m1 : List Int) (v0 : Value) (v1 : Value) (w : World) (h0 : K.ints w 0 w.heap.size v0 m0) (h1 : K.ints w 0 w.heap.size v1 m1) :
    Calls Try.prog 4 #[v0, v1] w fun e w' => e = .returned (.bool true) ∧ K.Ext w w' := by
  have g0 := h0
  obtain ⟨o0, c0, rfl, _⟩ := g0
  have g1 := h1
  obtain ⟨o1, c1, rfl, _⟩ := g1
  by_cases hm0 : m0.length ≤ 1048576
  · skip
    by_cases hm1 : m1.length ≤ 1048576
    · skip
      have X0 := K.Ext.refl w
      have s0 : w.heap.size ≤ w.heap.size := Nat.le_refl _
      go_enter Try.func4, Try.ntmps4
      go_wp2_with (go_at_call 16; refine K.call (by with_reducible rfl) (by with_reducible rfl) (toInt64S_any m0 _ _ _ _ hm0 h0) ?_; rintro e w1 ⟨⟨a1, rfl, f1⟩, x1⟩)
      have X1 : K.Ext w w1 := X0.trans x1
      have s1 := x1.size
      replace h0 := h0.ext x1
      replace h1 := h1.ext x1
      clear x1
      go_wp2_with (go_at_call 16; refine K.call (by with_reducible rfl) (by with_reducible rfl) (toInt64S_any m1 _ _ _ _ hm1 h1) ?_; rintro e w2 ⟨⟨a2, rfl, f2⟩, x2⟩)
      have X2 : K.Ext w w2 := X1.trans x2
      have s2 := x2.size
      replace h0 := h0.ext x2
      replace h1 := h1.ext x2
      replace f1 := f1.ext x2
      clear x2
      go_wp2_with (go_at_call 19; refine K.call (by with_reducible rfl) (by with_reducible rfl) (spec_MultiplyUnits m0 m1 _ _ _ _ _ _ _ hm0 hm1 f1.ints f2.ints) ?_; rintro e w3 ⟨⟨r3, rfl, f3⟩, x3⟩)
      have X3 : K.Ext w w3 := X2.trans x3
      have s3 := x3.size
      replace h0 := h0.ext x3
      replace h1 := h1.ext x3
      replace f1 := f1.ext x3
      replace f2 := f2.ext x3
      clear x3
      go_wp2_with (go_at_call 16; refine K.call (by with_reducible rfl) (by with_reducible rfl) (toInt64S_any m0 _ _ _ _ hm0 h0) ?_; rintro e w4 ⟨⟨a4, rfl, f4⟩, x4⟩)
      have X4 : K.Ext w w4 := X3.trans x4
      have s4 := x4.size
      replace h0 := h0.ext x4
      replace h1 := h1.ext x4
      replace f1 := f1.ext x4
      replace f2 := f2.ext x4
      replace f3 := f3.ext x4
      clear x4
      go_wp2_with (go_at_call 16; refine K.call (by with_reducible rfl) (by with_reducible rfl) (toInt64S_any m1 _ _ _ _ hm1 h1) ?_; rintro e w5 ⟨⟨a5, rfl, f5⟩, x5⟩)
      have X5 : K.Ext w w5 := X4.trans x5
      have s5 := x5.size
      replace h0 := h0.ext x5
      replace h1 := h1.ext x5
      replace f1 := f1.ext x5
      replace f2 := f2.ext x5
      replace f3 := f3.ext x5
      replace f4 := f4.ext x5
      clear x5
      go_wp2_with (go_at_call 20; refine K.call (by with_reducible rfl) (by with_reducible rfl) (impl_MultiplyUnits m0 m1 _ _ _ _ _ _ _ hm0 hm1 f4.ints f5.ints) ?_; rintro e w6 ⟨⟨r6, rfl, f6⟩, x6⟩)
      have X6 : K.Ext w w6 := X5.trans x6
      have s6 := x6.size
      replace h0 := h0.ext x6
      replace h1 := h1.ext x6
      replace f1 := f1.ext x6
      replace f2 := f2.ext x6
      replace f3 := f3.ext x6
      replace f4 := f4.ext x6
      replace f5 := f5.ext x6
      clear x6
      go_wp2_with (go_at_call 18; refine K.call (by with_reducible rfl) (by with_reducible rfl) (eqInt64S_same (Z.MultiplyUnits m0 m1).1 _ _ _ _ _ _ _ (Z.MultiplyUnits_len _ _) f6.ints f3) ?_; rintro e w7 ⟨rfl, x7⟩)
      have X7 : K.Ext w w7 := X6.trans x7
      have s7 := x7.size
      replace h0 := h0.ext x7
      replace h1 := h1.ext x7
      replace f1 := f1.ext x7
      replace f2 := f2.ext x7
      replace f3 := f3.ext x7
      replace f4 := f4.ext x7
      replace f5 := f5.ext x7
      replace f6 := f6.ext x7
      clear x7
      go_wp2_with (go_at_call 16; refine K.call (by with_reducible rfl) (by with_reducible rfl) (toInt64S_any m0 _ _ _ _ hm0 h0) ?_; rintro e w8 ⟨⟨a8, rfl, f8⟩, x8⟩)
      have X8 : K.Ext w w8 := X7.trans x8
      have s8 := x8.size
      replace h0 := h0.ext x8
      replace h1 := h1.ext x8
      replace f1 := f1.ext x8
      replace f2 := f2.ext x8
      replace f3 := f3.ext x8
      replace f4 := f4.ext x8
      replace f5 := f5.ext x8
      replace f6 := f6.ext x8
      clear x8
      go_wp2_with (go_at_call 18; refine K.call (by with_reducible rfl) (by with_reducible rfl) (eqInt64S_same m0 _ _ _ _ _ _ _ hm0 f4.ints f8.ints) ?_; rintro e w9 ⟨rfl, x9⟩)
      have X9 : K.Ext w w9 := X8.trans x9
      have s9 := x9.size
      replace h0 := h0.ext x9
      replace h1 := h1.ext x9
      replace f1 := f1.ext x9
      replace f2 := f2.ext x9
      replace f3 := f3.ext x9
      replace f4 := f4.ext x9
      replace f5 := f5.ext x9
      replace f6 := f6.ext x9
      replace f8 := f8.ext x9
      clear x9
      go_wp2_with (go_at_call 16; refine K.call (by with_reducible rfl) (by with_reducible rfl) (toInt64S_any m1 _ _ _ _ hm1 h1) ?_; rintro e w10 ⟨⟨a10, rfl, f10⟩, x10⟩)
      have X10 : K.Ext w w10 := X9.trans x10
      have s10 := x10.size
      replace h0 := h0.ext x10
      replace h1 := h1.ext x10
      replace f1 := f1.ext x10
      replace f2 := f2.ext x10
      replace f3 := f3.ext x10
      replace f4 := f4.ext x10
      replace f5 := f5.ext x10
      replace f6 := f6.ext x10
      replace f8 := f8.ext x10
      clear x10
      go_wp2_with (go_at_call 18; refine K.call (by with_reducible rfl) (by with_reducible rfl) (eqInt64S_same m1 _ _ _ _ _ _ _ hm1 f5.ints f10.ints) ?_; rintro e w11 ⟨rfl, x11⟩)
      have X11 : K.Ext w w11 := X10.trans x11
      have s11 := x11.size
      replace h0 := h0.ext x11
      replace h1 := h1.ext x11
      replace f1 := f1.ext x11
      replace f2 := f2.ext x11
      replace f3 := f3.ext x11
      replace f4 := f4.ext x11
      replace f5 := f5.ext x11
      replace f6 := f6.ext x11
      replace f8 := f8.ext x11
      replace f10 := f10.ext x11
      clear x11
      go_wp2_with (go_at_call 21; refine K.call (by with_reducible rfl) (by with_reducible rfl) (markInt64S_any m0 _ _ _ (1) _ hm0 (by omega) (by omega) f4) ?_; rintro e w12 ⟨⟨rfl, F12⟩, y12⟩)
      have s12 := y12.size
      have X12 : K.Ext w w12 := K.Far.ext X11 y12 (by omega)
      replace h0 := h0.far y12 (by omega)
      replace h1 := h1.far y12 (by omega)
      replace f1 := f1.far y12 (by omega)
      replace f2 := f2.far y12 (by omega)
      replace f3 := f3.far y12 (by omega)
      replace f5 := f5.far y12 (by omega)
      replace f6 := f6.far y12 (by omega)
      replace f8 := f8.far y12 (by omega)
      replace f10 := f10.far y12 (by omega)
      clear y12 f4
      go_wp2_with (go_at_call 21; refine K.call (by with_reducible rfl) (by with_reducible rfl) (markInt64S_any m1 _ _ _ (1 + (m0.length : Int)) _ hm1 (by omega) (by omega) f5) ?_; rintro e w13 ⟨⟨rfl, F13⟩, y13⟩)
      have s13 := y13.size
      have X13 : K.Ext w w13 := K.Far.ext X12 y13 (by omega)
      replace h0 := h0.far y13 (by omega)
      replace h1 := h1.far y13 (by omega)
      replace f1 := f1.far y13 (by omega)
      replace f2 := f2.far y13 (by omega)
      replace f3 := f3.far y13 (by omega)
      replace f6 := f6.far y13 (by omega)
      replace f8 := f8.far y13 (by omega)
      replace f10 := f10.far y13 (by omega)
      replace F12 := F12.far y13 (by omega)
      clear y13 f5
      go_wp2_with (go_at_call 18; refine K.call (by with_reducible rfl) (by with_reducible rfl) (eqInt64S_same (Z.MultiplyUnits m0 m1).1 _ _ _ _ _ _ _ (Z.MultiplyUnits_len _ _) f6.ints f3) ?_; rintro e w14 ⟨rfl, x14⟩)
      have X14 : K.Ext w w14 := X13.trans x14
      have s14 := x14.size
      replace h0 := h0.ext x14
      replace h1 := h1.ext x14
      replace f1 := f1.ext x14
      replace f2 := f2.ext x14
      replace f3 := f3.ext x14
      replace f6 := f6.ext x14
      replace f8 := f8.ext x14
      replace f10 := f10.ext x14
      replace F12 := F12.ext x14
      replace F13 := F13.ext x14
      clear x14
      go_wp2_with (go_at_call 21; refine K.call (by with_reducible rfl) (by with_reducible rfl) (markInt64S_any (Z.MultiplyUnits m0 m1).1 _ _ _ (1) _ (Z.MultiplyUnits_len _ _) (by omega) (by omega) f6) ?_; rintro e w15 ⟨⟨rfl, F15⟩, y15⟩)
      have s15 := y15.size
      have X15 : K.Ext w w15 := K.Far.ext X14 y15 (by omega)
      replace h0 := h0.far y15 (by omega)
      replace h1 := h1.far y15 (by omega)
      replace f1 := f1.far y15 (by omega)
      replace f2 := f2.far y15 (by omega)
      replace f3 := f3.far y15 (by omega)
      replace f8 := f8.far y15 (by omega)
      replace f10 := f10.far y15 (by omega)
      replace F12 := F12.far y15 (by omega)
      replace F13 := F13.far y15 (by omega)
      clear y15 f6
      go_wp2_with (go_at_call 22; refine K.call (by with_reducible rfl) (by with_reducible rfl) (heldInt64S_any _ _ _ _ (1) _ (Z.MultiplyUnits_len _ _) (by omega) (by omega) F15.ints) ?_; rintro e w16 ⟨rfl, rfl⟩)
      go_wp2_with (go_at_call 16; refine K.call (by with_reducible rfl) (by with_reducible rfl) (toInt64S_any m0 _ _ _ _ hm0 h0) ?_; rintro e w17 ⟨⟨a17, rfl, f17⟩, x17⟩)
      have X17 : K.Ext w w17 := X15.trans x17
      have s17 := x17.size
      replace h0 := h0.ext x17
      replace h1 := h1.ext x17
      replace f1 := f1.ext x17
      replace f2 := f2.ext x17
      replace f3 := f3.ext x17
      replace f8 := f8.ext x17
      replace f10 := f10.ext x17
      replace F12 := F12.ext x17
      replace F13 := F13.ext x17
      replace F15 := F15.ext x17
      clear x17
      go_wp2_with (go_at_call 16; refine K.call (by with_reducible rfl) (by with_reducible rfl) (toInt64S_any m1 _ _ _ _ hm1 h1) ?_; rintro e w18 ⟨⟨a18, rfl, f18⟩, x18⟩)
      have X18 : K.Ext w w18 := X17.trans x18
      have s18 := x18.size
      replace h0 := h0.ext x18
      replace h1 := h1.ext x18
      replace f1 := f1.ext x18
      replace f2 := f2.ext x18
      replace f3 := f3.ext x18
      replace f8 := f8.ext x18
      replace f10 := f10.ext x18
      replace F12 := F12.ext x18
      replace F13 := F13.ext x18
      replace F15 := F15.ext x18
      replace f17 := f17.ext x18
      clear x18
      go_wp2_with (go_at_call 20; refine K.call (by with_reducible rfl) (by with_reducible rfl) (impl_MultiplyUnits m0 m1 _ _ _ _ _ _ _ hm0 hm1 f17.ints f18.ints) ?_; rintro e w19 ⟨⟨r19, rfl, f19⟩, x19⟩)
      have X19 : K.Ext w w19 := X18.trans x19
      have s19 := x19.size
      replace h0 := h0.ext x19
      replace h1 := h1.ext x19
      replace f1 := f1.ext x19
      replace f2 := f2.ext x19
      replace f3 := f3.ext x19
      replace f8 := f8.ext x19
      replace f10 := f10.ext x19
      replace F12 := F12.ext x19
      replace F13 := F13.ext x19
      replace F15 := F15.ext x19
      replace f17 := f17.ext x19
      replace f18 := f18.ext x19
      clear x19
      go_wp2_with (go_at_call 18; refine K.call (by with_reducible rfl) (by with_reducible rfl) (eqInt64S_same (Z.MultiplyUnits m0 m1).1 _ _ _ _ _ _ _ (Z.MultiplyUnits_len _ _) f19.ints f3) ?_; rintro e w20 ⟨rfl, x20⟩)
      have X20 : K.Ext w w20 := X19.trans x20
      have s20 := x20.size
      replace h0 := h0.ext x20
      replace h1 := h1.ext x20
      replace f1 := f1.ext x20
      replace f2 := f2.ext x20
      replace f3 := f3.ext x20
      replace f8 := f8.ext x20
      replace f10 := f10.ext x20
      replace F12 := F12.ext x20
      replace F13 := F13.ext x20
      replace F15 := F15.ext x20
      replace f17 := f17.ext x20
      replace f18 := f18.ext x20
      replace f19 := f19.ext x20
      clear x20
      go_wp2_with (go_at_call 22; refine K.call (by with_reducible rfl) (by with_reducible rfl) (heldInt64S_any _ _ _ _ (1) _ (Z.MultiplyUnits_len _ _) (by omega) (by omega) F15.ints) ?_; rintro e w21 ⟨rfl, rfl⟩)
      go_ret
      exact ⟨rfl, X20⟩
    · go_enter Try.func4, Try.ntmps4
      go_wp2_with fail
      go_ret
      exact ⟨rfl, K.Ext.refl _⟩
  · go_enter Try.func4, Try.ntmps4
    go_wp2_with fail
    go_ret
    exact ⟨rfl, K.Ext.refl _⟩
set_option maxHeartbeats 1600000 in
theorem law_FnExactPowerUnit (m0 : List Int) (m1 : Int) (v0 : Value) (w : World) (h0 : K.ints w 0 w.heap.size v0 m0) :
    Calls Try.prog 6 #[v0, .int .i64 m1] w fun e w' => e = .returned (.bool true) ∧ K.Ext w w' := by
  have g0 := h0
  obtain ⟨o0, c0, rfl, _⟩ := g0
  by_cases hm0 : m0.length ≤ 1048576
  · skip
    have X0 := K.Ext.refl w
    have s0 : w.heap.size ≤ w.heap.size := Nat.le_refl _
    go_enter Try.func6, Try.ntmps6
    go_wp2_with (go_at_call 16; refine K.call (by with_reducible rfl) (by with_reducible rfl) (toInt64S_any m0 _ _ _ _ hm0 h0) ?_; rintro e w1 ⟨⟨a1, rfl, f1⟩, x1⟩)
    have X1 : K.Ext w w1 := X0.trans x1
    have s1 := x1.size
    replace h0 := h0.ext x1
    clear x1
    go_wp2_with (go_at_call 28; refine K.call (by with_reducible rfl) (by with_reducible rfl) (spec_PowerUnit m0 m1 _ _ _ _ hm0 f1.ints) ?_; rintro e w2 ⟨⟨r2, rfl, f2⟩, x2⟩)
    have X2 : K.Ext w w2 := X1.trans x2
    have s2 := x2.size
    replace h0 := h0.ext x2
    replace f1 := f1.ext x2
    clear x2
    go_wp2_with (go_at_call 16; refine K.call (by with_reducible rfl) (by with_reducible rfl) (toInt64S_any m0 _ _ _ _ hm0 h0) ?_; rintro e w3 ⟨⟨a3, rfl, f3⟩, x3⟩)
    have X3 : K.Ext w w3 := X2.trans x3
    have s3 := x3.size
    replace h0 := h0.ext x3
    replace f1 := f1.ext x3
    replace f2 := f2.ext x3
    clear x3
    go_wp2_with (go_at_call 29; refine K.call (by with_reducible rfl) (by with_reducible rfl) (impl_PowerUnit m0 m1 _ _ _ _ hm0 f3.ints) ?_; rintro e w4 ⟨⟨r4, rfl, f4⟩, x4⟩)
    have X4 : K.Ext w w4 := X3.trans x4
    have s4 := x4.size
    replace h0 := h0.ext x4
    replace f1 := f1.ext x4
    replace f2 := f2.ext x4
    replace f3 := f3.ext x4
    clear x4
    go_wp2_with (go_at_call 18; refine K.call (by with_reducible rfl) (by with_reducible rfl) (eqInt64S_same (Z.PowerUnit m0 m1).1 _ _ _ _ _ _ _ (Z.PowerUnit_len _ _) f4.ints f2) ?_; rintro e w5 ⟨rfl, x5⟩)
    have X5 : K.Ext w w5 := X4.trans x5
    have s5 := x5.size
    replace h0 := h0.ext x5
    replace f1 := f1.ext x5
    replace f2 := f2.ext x5
    replace f3 := f3.ext x5
    replace f4 := f4.ext x5
    clear x5
    go_wp2_with (go_at_call 16; refine K.call (by with_reducible rfl) (by with_reducible rfl) (toInt64S_any m0 _ _ _ _ hm0 h0) ?_; rintro e w6 ⟨⟨a6, rfl, f6⟩, x6⟩)
    have X6 : K.Ext w w6 := X5.trans x6
    have s6 := x6.size
    replace h0 := h0.ext x6
    replace f1 := f1.ext x6
    replace f2 := f2.ext x6
    replace f3 := f3.ext x6
    replace f4 := f4.ext x6
    clear x6
    go_wp2_with (go_at_call 18; refine K.call (by with_reducible rfl) (by with_reducible rfl) (eqInt64S_same m0 _ _ _ _ _ _ _ hm0 f3.ints f6.ints) ?_; rintro e w7 ⟨rfl, x7⟩)
    have X7 : K.Ext w w7 := X6.trans x7
    have s7 := x7.size
    replace h0 := h0.ext x7
    replace f1 := f1.ext x7
    replace f2 := f2.ext x7
    replace f3 := f3.ext x7
    replace f4 := f4.ext x7
    replace f6 := f6.ext x7
    clear x7
    go_wp2_with (go_at_call 21; refine K.call (by with_reducible rfl) (by with_reducible rfl) (markInt64S_any m0 _ _ _ (1) _ hm0 (by omega) (by omega) f3) ?_; rintro e w8 ⟨⟨rfl, F8⟩, y8⟩)
    have s8 := y8.size
    have X8 : K.Ext w w8 := K.Far.ext X7 y8 (by omega)
    replace h0 := h0.far y8 (by omega)
    replace f1 := f1.far y8 (by omega)
    replace f2 := f2.far y8 (by omega)
    replace f4 := f4.far y8 (by omega)
    replace f6 := f6.far y8 (by omega)
    clear y8 f3
    go_wp2_with (go_at_call 18; refine K.call (by with_reducible rfl) (by with_reducible rfl) (eqInt64S_same (Z.PowerUnit m0 m1).1 _ _ _ _ _ _ _ (Z.PowerUnit_len _ _) f4.ints f2) ?_; rintro e w9 ⟨rfl, x9⟩)
    have X9 : K.Ext w w9 := X8.trans x9
    have s9 := x9.size
    replace h0 := h0.ext x9
    replace f1 := f1.ext x9
    replace f2 := f2.ext x9
    replace f4 := f4.ext x9
    replace f6 := f6.ext x9
    replace F8 := F8.ext x9
    clear x9
    go_wp2_with (go_at_call 21; refine K.call (by with_reducible rfl) (by with_reducible rfl) (markInt64S_any (Z.PowerUnit m0 m1).1 _ _ _ (1) _ (Z.PowerUnit_len _ _) (by omega) (by omega) f4) ?_; rintro e w10 ⟨⟨rfl, F10⟩, y10⟩)
    have s10 := y10.size
    have X10 : K.Ext w w10 := K.Far.ext X9 y10 (by omega)
    replace h0 := h0.far y10 (by omega)
    replace f1 := f1.far y10 (by omega)
    replace f2 := f2.far y10 (by omega)
    replace f6 := f6.far y10 (by omega)
    replace F8 := F8.far y10 (by omega)
    clear y10 f4
    go_wp2_with (go_at_call 22; refine K.call (by with_reducible rfl) (by with_reducible rfl) (heldInt64S_any _ _ _ _ (1) _ (Z.PowerUnit_len _ _) (by omega) (by omega) F10.ints) ?_; rintro e w11 ⟨rfl, rfl⟩)
    go_wp2_with (go_at_call 16; refine K.call (by with_reducible rfl) (by with_reducible rfl) (toInt64S_any m0 _ _ _ _ hm0 h0) ?_; rintro e w12 ⟨⟨a12, rfl, f12⟩, x12⟩)
    have X12 : K.Ext w w12 := X10.trans x12
    have s12 := x12.size
    replace h0 := h0.ext x12
    replace f1 := f1.ext x12
    replace f2 := f2.ext x12
    replace f6 := f6.ext x12
    replace F8 := F8.ext x12
    replace F10 := F10.ext x12
    clear x12
    go_wp2_with (go_at_call 29; refine K.call (by with_reducible rfl) (by with_reducible rfl) (impl_PowerUnit m0 m1 _ _ _ _ hm0 f12.ints) ?_; rintro e w13 ⟨⟨r13, rfl, f13⟩, x13⟩)
    have X13 : K.Ext w w13 := X12.trans x13
    have s13 := x13.size
    replace h0 := h0.ext x13
    replace f1 := f1.ext x13
    replace f2 := f2.ext x13
    replace f6 := f6.ext x13
    replace F8 := F8.ext x13
    replace F10 := F10.ext x13
    replace f12 := f12.ext x13
    clear x13
    go_wp2_with (go_at_call 18; refine K.call (by with_reducible rfl) (by with_reducible rfl) (eqInt64S_same (Z.PowerUnit m0 m1).1 _ _ _ _ _ _ _ (Z.PowerUnit_len _ _) f13.ints f2) ?_; rintro e w14 ⟨rfl, x14⟩)
    have X14 : K.Ext w w14 := X13.trans x14
    have s14 := x14.size
    replace h0 := h0.ext x14
    replace f1 := f1.ext x14
    replace f2 := f2.ext x14
    replace f6 := f6.ext x14
    replace F8 := F8.ext x14
    replace F10 := F10.ext x14
    replace f12 := f12.ext x14
    replace f13 := f13.ext x14
    clear x14
    go_wp2_with (go_at_call 22; refine K.call (by with_reducible rfl) (by with_reducible rfl) (heldInt64S_any _ _ _ _ (1) _ (Z.PowerUnit_len _ _) (by omega) (by omega) F10.ints) ?_; rintro e w15 ⟨rfl, rfl⟩)
    go_ret
    exact ⟨rfl, X14⟩
  · go_enter Try.func6, Try.ntmps6
    go_wp2_with fail
    go_ret
    exact ⟨rfl, K.Ext.refl _⟩
end Go.Proofs.Ytpepekmljmeghaa
