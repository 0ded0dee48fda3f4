/-
  For every input the law FnExactFormulaText returns true, and its arguments read as before; the library's tables start as the program's text lays them (the card ties them).
-/
import Derived.Test.YtbloldnmlhhbhaaDoorPFT2
import Derived.Shelf.LaysC
import Derived.Shelf.LaysM
import Derived.Shelf.Strconv.Itoa4
import Derived.Shelf.Strconv.ParseIntPublic10
import Derived.Shelf.Strings.Cut
import Derived.Shelf.Strings.OnBuilder
import Derived.Shelf.Strings.Prefix
import Derived.Shelf.Strings.Replace
import Derived.Shelf.Strings.Search3
import Derived.Shelf.Strings.Split
import Derived.Shelf.Strings.SplitShaped
import Derived.Lib.AppendIntMem
import Derived.Lib.CountLaws
import Derived.Lib.IndexBytes
import Derived.Lib.Split
import Derived.Lib.SplitLaws
import Derived.LaidMore
import Derived.Lib.LaidTab
import Derived.MakeChecks
import Derived.SevenTiedAt
import Derived.Stop.Joined
import Derived.Stop.LaidErr
import Derived.Test.YtbloldnmlhhbhaaDoorCards
import Derived.Test.YtbloldnmlhhbhaaDoorRows
import Derived.Test.YtbloldnmlhhbhaaDoorTie
set_option linter.unusedVariables false
section
namespace Go.Proofs
open Go.Shelf
def Tryd.laysM173_ren : Go.Shelf.Ren := ⟨fun | 173 => 102 | 246 => 120 | 283 => 134 | 284 => 135 | 285 => 136 | 286 => 137 | 129 => 145 | 317 => 144 | 318 => 146 | 319 => 147 | 320 => 148 | 337 => 150 | 338 => 151 | n => n, fun | 2 => 2 | 3 => 3 | 9 => 9 | 4 => 4 | 171 => 151 | 0 => 0 | 53 => 141 | 37 => 22 | 5 => 5 | 173 => 154 | 212 => 162 | 51 => 147 | 20 => 20 | 213 => 163 | 46 => 132 | 232 => 174 | 233 => 175 | n => n, fun | 17 => 3 | 18 => 6 | 19 => 7 | n => n⟩
theorem Tryd.laysM173 : Go.Proofs.LaysM.n173 Tryd.prog Tryd.laysM173_ren := {
  mixed := by kernel_rfl
  f129 := Tryd.func145.trans (congrArg some (by kernel_rfl))
  f173 := Tryd.func102.trans (congrArg some (by kernel_rfl))
  f246 := Tryd.func120.trans (congrArg some (by kernel_rfl))
  f283 := Tryd.func134.trans (congrArg some (by kernel_rfl))
  f284 := Tryd.func135.trans (congrArg some (by kernel_rfl))
  f285 := Tryd.func136.trans (congrArg some (by kernel_rfl))
  f286 := Tryd.func137.trans (congrArg some (by kernel_rfl))
  f317 := Tryd.func144.trans (congrArg some (by kernel_rfl))
  f318 := Tryd.func146.trans (congrArg some (by kernel_rfl))
  f319 := Tryd.func147.trans (congrArg some (by kernel_rfl))
  f320 := Tryd.func148.trans (congrArg some (by kernel_rfl))
  f337 := Tryd.func150.trans (congrArg some (by kernel_rfl))
  f338 := Tryd.func151.trans (congrArg some (by kernel_rfl))
  t0 := Tryd.underlying0
  a0 := Tryd.isAgg0
  z0 := Tryd.sizeOf0
  v0 := Tryd.zeroValue0
  t2 := Tryd.underlying2
  a2 := Tryd.isAgg2
  z2 := Tryd.sizeOf2
  v2 := Tryd.zeroValue2
  t3 := Tryd.underlying3
  a3 := Tryd.isAgg3
  z3 := Tryd.sizeOf3
  v3 := Tryd.zeroValue3
  t4 := Tryd.underlying4
  a4 := Tryd.isAgg4
  z4 := Tryd.sizeOf4
  v4 := Tryd.zeroValue4
  t5 := Tryd.underlying5
  a5 := Tryd.isAgg5
  z5 := Tryd.sizeOf5
  v5 := Tryd.zeroValue5
  t9 := Tryd.underlying9
  a9 := Tryd.isAgg9
  z9 := Tryd.sizeOf9
  v9 := Tryd.zeroValue9
  t20 := Tryd.underlying20
  a20 := Tryd.isAgg20
  z20 := Tryd.sizeOf20
  v20 := Tryd.zeroValue20
  t37 := Tryd.underlying22
  a37 := Tryd.isAgg22
  z37 := Tryd.sizeOf22
  v37 := Tryd.zeroValue22
  t46 := Tryd.underlying132
  a46 := Tryd.isAgg132
  z46 := Tryd.sizeOf132
  v46 := Tryd.zeroValue132
  t51 := Tryd.underlying147
  a51 := Tryd.isAgg147
  z51 := Tryd.sizeOf147
  v51 := Tryd.zeroValue147
  t53 := Tryd.underlying141
  a53 := Tryd.isAgg141
  z53 := Tryd.sizeOf141
  v53 := Tryd.zeroValue141
  t171 := Tryd.underlying151
  a171 := Tryd.isAgg151
  z171 := Tryd.sizeOf151
  v171 := Tryd.zeroValue151
  t173 := Tryd.underlying154
  a173 := Tryd.isAgg154
  z173 := Tryd.sizeOf154
  v173 := Tryd.zeroValue154
  t212 := Tryd.underlying162
  a212 := Tryd.isAgg162
  z212 := Tryd.sizeOf162
  v212 := Tryd.zeroValue162
  t213 := Tryd.underlying163
  a213 := Tryd.isAgg163
  z213 := Tryd.sizeOf163
  t232 := Tryd.underlying174
  a232 := Tryd.isAgg174
  z232 := Tryd.sizeOf174
  v232 := Tryd.zeroValue174
  t233 := Tryd.underlying175
  a233 := Tryd.isAgg175
  z233 := Tryd.sizeOf175
  v233 := Tryd.zeroValue175
  g17 := by kernel_rfl
  g18 := by kernel_rfl
  g19 := by kernel_rfl
  i0 := by kernel_rfl
  i2 := by kernel_rfl
  i3 := by kernel_rfl
  i4 := by kernel_rfl
  i5 := by kernel_rfl
  i9 := by kernel_rfl
  i20 := by kernel_rfl
  i37 := by kernel_rfl
  i46 := by kernel_rfl
  i51 := by kernel_rfl
  i53 := by kernel_rfl
  i171 := by kernel_rfl
  i173 := by kernel_rfl
  i212 := by kernel_rfl
  i232 := by kernel_rfl
  i233 := by kernel_rfl
  m17 := by kernel_rfl
  m18 := by kernel_rfl
  m19 := by kernel_rfl }
open Go.RowKit Go.Sort Go.Lib in
/-- strconv.FormatInt: "FormatInt returns the string representation of i in the given base": AT BASE 10: i's decimal numeral, for every int64. (LAID: no walk: one application.) -/
theorem Tryd.strconv_FormatInt_10 (n : Int) (h0 : -9223372036854775808 ≤ n) (h1 : n ≤ 9223372036854775807) (w : World) (htab : Lib.TabIs Tryd.prog w "internal/strconv.uint64pow10" .u64 Lib.pow10Tab) :
    Calls Tryd.prog 102 #[.int .i64 n, .int .i64 10] w fun e w' => e = .returned (.string ⟨(Lib.itoa n).toArray⟩) ∧ ∃ k os, w' = grow (w.drewN k) os := Any.strconv_FormatInt_10 Tryd.laysM173 n h0 h1 w htab
end Go.Proofs
end
section
namespace Go.K
open Go.RowKit
theorem var_ext {P : Program} {w w' : World} {n : String} {cs : Array Value} (h : w.var? P n = some cs) (e : Ext w w') : w'.var? P n = some cs := by
  unfold World.var? at h ⊢
  cases hg : P.globalNamed n with
  | none => rw [hg] at h; cases h
  | some g =>
    rw [hg] at h
    simp only [Option.bind_some] at h ⊢
    cases ho : w.heap[g]? with
    | none => rw [ho] at h; cases h
    | some o =>
      rw [e.block ho]
      rw [ho] at h
      exact h
/-- the table of the powers of ten -/
structure TabV (P : Program) (w : World) : Prop where
  tab : Lib.TabIs P w "internal/strconv.uint64pow10" .u64 Lib.pow10Tab
theorem TabV.ext {P : Program} {w w' : World} (h : TabV P w) (e : Ext w w') : TabV P w' := ⟨var_ext h.tab e⟩
/-- what the library's functions ask of its variables -/
structure LibV (P : Program) (gM gS gR : Nat) (w : World) : Prop where
  tab : Lib.TabIs P w "internal/strconv.uint64pow10" .u64 Lib.pow10Tab
  maxl : ∃ m, w.cell? ⟨gM, 0, none⟩ = some (.int .i64 m)
  syn : ∃ ev, w.cell? ⟨gS, 0, none⟩ = some ev ∧ (ev = .nilIface ∨ ∃ te pe, ev = .iface te pe)
  rng : ∃ ev, w.cell? ⟨gR, 0, none⟩ = some ev ∧ (ev = .nilIface ∨ ∃ te pe, ev = .iface te pe)
theorem LibV.ext {P : Program} {gM gS gR : Nat} {w w' : World} (h : LibV P gM gS gR w) (e : Ext w w') : LibV P gM gS gR w' :=
  ⟨var_ext h.tab e, let ⟨m, hm⟩ := h.maxl; ⟨m, e.cell_of hm⟩, let ⟨v, hv, hh⟩ := h.syn; ⟨v, e.cell_of hv, hh⟩, let ⟨v, hv, hh⟩ := h.rng; ⟨v, e.cell_of hv, hh⟩⟩
theorem LibV.t {P : Program} {gM gS gR : Nat} {w : World} (h : LibV P gM gS gR w) : TabV P w := ⟨h.tab⟩
theorem cut_str {P : Program} {t : TypeId} {s : ByteArray} {i j : Nat} {a b : Int} (h : P.underlying t = some .string) (ha : a = (i : Int)) (hb : b = (j : Int)) (h1 : i ≤ j) (h2 : j ≤ s.size) (w : World) :
    (Instr.slice t (.string s) (some (.int .i64 a)) (some (.int .i64 b)) none).run P w = .ok (.string (s.extract i j)) w := by
  subst ha hb
  have := run_slice_string (P := P) w t s .i64 .i64 (i : Int) (j : Int) h (by omega) (by omega) (by omega)
  simpa using this
end Go.K
namespace Go.Proofs.YtbloldnmlhhbhaaDoor
open Go.RowKit
/-- .. at this program -/
abbrev LTab (w : World) : Prop := K.TabV Tryd.prog w
theorem decimal_any (n : Int) (w : World) (h0 : -9223372036854775808 ≤ n) (h1 : n ≤ 9223372036854775807) (hL : LTab w) :
    Calls Tryd.prog 80 #[.int .i64 n] w fun e w' => e = .returned (.string (Z.dec n)) ∧ K.Ext w w' := by
  go_enter Tryd.func80, Tryd.ntmps80
  go_wp2_with fail
  refine K.call (by with_reducible rfl) (by with_reducible rfl) (Tryd.strconv_FormatInt_10 n h0 h1 w hL.tab) ?_
  rintro e w1 ⟨rfl, k, os, rfl⟩
  go_wp2_with fail
  go_ret
  exact ⟨rfl, Lib.below_grow _ _ (Nat.le_refl _) _ _⟩
set_option maxRecDepth 100000 in
set_option maxHeartbeats 6400000 in
theorem l01Dec_any (u : Nat) : ∀ (w : World) (hu : u < 1000000000000000000),
    Calls Tryd.prog 103 #[.int .i64 (u : Int)] w fun e w' => e = .returned (.string (Z.str (Lib.decDigits u))) ∧ K.Ext w w' := by
  induction u using Nat.strongRecOn with
  | _ u ih =>
    intro w hu
    have hm : (u % 10 : Nat) < 10 := Nat.mod_lt _ (by decide)
    by_cases h : u < 10
    · have h10 : (u : Int) < 10 := by omega
      have q1 : IntKind.i64.wrap (48 + (u : Int)) = 48 + (u : Int) := IntWalk.i64_in _ (by omega)
      have q2 : IntKind.u8.wrap (48 + (u : Int)) = 48 + (u : Int) := IntWalk.u8_in _ (by omega)
      have hcv := K.byte_str (P := Tryd.prog) (w := w.alloc (.cells #[.int .u8 (48 + (u : Int))] 5)) (src := 22) (dst := 9) (c := 48 + (u : Int)) Tryd.underlying22 Tryd.underlying5 Tryd.underlying9 (by omega) (by omega) (K.block_new rfl)
      go_enter Tryd.func103, Tryd.ntmps103
      go_wp2
      go_ret
      refine ⟨?_, (K.Ext.refl _).alloc _⟩
      rw [Lib.decDigits_one h]
      rfl
    · have h10 : ¬ (u : Int) < 10 := by omega
      have q0 : (u : Int).tdiv 10 = ((u / 10 : Nat) : Int) := by rw [Int.tdiv_eq_ediv_of_nonneg (by omega)]; omega
      have q0' : (u : Int).tmod 10 = ((u % 10 : Nat) : Int) := by rw [Int.tmod_eq_emod_of_nonneg (by omega)]; omega
      obtain ⟨d, hd⟩ : ∃ d : Int, d = ((u / 10 : Nat) : Int) := ⟨_, rfl⟩
      obtain ⟨r, hr⟩ : ∃ r : Int, r = 48 + ((u % 10 : Nat) : Int) := ⟨_, rfl⟩
      have r0 : 0 ≤ r := by omega
      have r1 : r ≤ 255 := by omega
      have hdec : Lib.decDigits u = Lib.decDigits (u / 10) ++ [UInt8.ofNat r.toNat] := by
        rw [Lib.decDigits, dif_neg h, show r.toNat = 48 + u % 10 by omega]
      have hs : (Z.str (Lib.decDigits (u / 10))).size ≤ 18 := by rw [Z.str_size]; exact Z.decDigits_le (k := 17) (by omega)
      have IH : ∀ w', Calls Tryd.prog 103 #[.int .i64 d] w' fun e w'' => e = .returned (.string (Z.str (Lib.decDigits (u / 10)))) ∧ K.Ext w' w'' := fun w' => by rw [hd]; exact ih (u / 10) (by omega) w' (by omega)
      have hres : Z.str (Lib.decDigits (u / 10)) ++ ⟨#[UInt8.ofNat r.toNat]⟩ = Z.str (Lib.decDigits u) := by rw [hdec, ← Z.str_append]; rfl
      have q1 : IntKind.i64.wrap ((u : Int).tdiv 10) = d := by rw [q0, ← hd]; exact IntWalk.i64_in _ (by omega)
      have q2 : IntKind.i64.wrap (48 + (u : Int).tmod 10) = r := by rw [q0', ← hr]; exact IntWalk.i64_in _ (by omega)
      have q3 : IntKind.u8.wrap r = r := IntWalk.u8_in _ (by omega)
      obtain ⟨S, hS⟩ : ∃ S, S = Z.str (Lib.decDigits (u / 10)) := ⟨_, rfl⟩
      rw [← hS] at hs hres
      have IH' : ∀ w', Calls Tryd.prog 103 #[.int .i64 d] w' fun e w'' => e = .returned (.string S) ∧ K.Ext w' w'' := fun w' => by rw [hS]; exact IH w'
      have hov : ¬ (9223372036854775807 < S.size + 1) := by omega
      obtain ⟨U, hU⟩ : ∃ U : Int, U = (u : Int) := ⟨_, rfl⟩
      rw [← hU] at q1 q2 h10 ⊢
      clear hd hr IH q0 q0' hS hdec hU
      go_enter Tryd.func103, Tryd.ntmps103
      go_wp2_with fail
      refine K.wp_region_x 10 [0, 0, 2, 0, 0, 0, 0, 2, 2, 0] [K.SP.any, K.SP.any, K.SP.is (.string S), K.SP.any, K.SP.any, K.SP.any, K.SP.any, K.SP.sl (w.heap.size) (.cells #[.int .u8 r] 5), K.SP.is (.string ⟨#[UInt8.ofNat r.toNat]⟩)] (by kernel_rfl) (by kernel_rfl) ?_
      simp only [List.take_succ_cons, List.take_zero, List.drop_succ_cons, List.drop_zero]
      iterate 2
        apply K.x_pure
        · rfl
        · rfl
        · intro w'; go_simp; first | done | exact K.vint (IntWalk.i64_in _ (by omega)) | rfl | exact ⟨rfl, rfl⟩
        simp only [Act.put, List.setIfInBounds_toArray, List.set]
      apply K.x_call_is
      · rfl
      · rfl
      · rfl
      · intro w'; go_simp; first | done | rfl | exact ⟨rfl, rfl⟩
      · intro w' hx hp; have hc := hx.all.1.1; have hf := hx.all.1.2; have hc' := hx.all.2.1; have hf' := hx.all.2.2; exact IH' _
      intro w_2_ hx_2_
      simp only [Act.put, List.setIfInBounds_toArray, List.set]
      iterate 4
        apply K.x_pure
        · rfl
        · rfl
        · intro w'; go_simp; first | done | exact K.vint (IntWalk.i64_in _ (by omega)) | rfl | exact ⟨rfl, rfl⟩
        simp only [Act.put, List.setIfInBounds_toArray, List.set]
      apply K.x_newsl
      · rfl
      · rfl
      · rfl
      · go_simp; first | done | omega
      · intro w'; go_simp; first | done | rfl | exact ⟨rfl, rfl⟩
      intro g3_7 w_7_ hx_7_ hg3_7 hb_7_
      simp only [Act.put, List.setIfInBounds_toArray, List.set]
      apply K.x_op_is
      · rfl
      · rfl
      · rfl
      · intro w' hx hp; have hc := hx.all.1.1; have hf := hx.all.1.2; have hc' := hx.all.2.1; have hf' := hx.all.2.2; have hq_ := K.byte_str (P := Tryd.prog) (src := 22) (dst := 9) Tryd.underlying22 Tryd.underlying5 Tryd.underlying9 r0 r1 (K.SP.sl_at (hp 7 _ (by kernel_rfl) rfl rfl)); go_simp; first | done | rfl
      intro w_8_ hx_8_
      simp only [Act.put, List.setIfInBounds_toArray, List.set]
      apply K.x_pure
      · rfl
      · rfl
      · intro w'; go_simp; first | done | exact K.vint (IntWalk.i64_in _ (by omega)) | rfl | exact ⟨rfl, rfl⟩
      simp only [Act.put, List.setIfInBounds_toArray, List.set]
      apply K.x_done
      intro w2 h_x
      have hx2 := hx_2_.trans (hx_7_.trans (hx_8_.trans h_x))
      have hb3_7 := K.Ext.block (hx_8_.trans h_x) hb_7_
      have cg3_7_0 : w2.cell? ⟨g3_7, 0, none⟩ = some (.int .u8 r) := K.cell_at hb3_7 rfl
      have fg3_7_0 : w2.frozen? ⟨g3_7, 0, none⟩ = false := K.thaw_at hb3_7
      clear h_x hx_2_ hx_7_ hx_8_
      obtain ⟨⟨hcw2, hfw2⟩, hc'w2, hf'w2⟩ := hx2.all
      go_wp2_with fail
      refine NoPanic.normal ?_
      go_wp2
      go_ret
      exact ⟨by rw [← hres]; rfl, (by repeat' (first | with_reducible exact K.Ext.refl _ | with_reducible assumption | with_reducible refine K.Ext.drew ?_ | with_reducible refine K.Ext.alloc ?_ _ | with_reducible refine K.Ext.setCell ?_ ?_ _ | with_reducible refine K.Ext.trans ?_ (by with_reducible assumption) | (dsimp only; omega) | omega | exact K.Ext.refl _ | assumption | apply K.Ext.drew | refine K.Ext.alloc ?_ _ | refine K.Ext.setCell ?_ ?_ _ | (simp; done) | (simp; omega) | refine K.Ext.trans ?_ (by assumption)))⟩
theorem l01Dec_int (n : Int) (w : World) (h0 : 0 ≤ n) (h1 : n < 1000000000000000000) :
    Calls Tryd.prog 103 #[.int .i64 n] w fun e w' => e = .returned (.string (Z.dec n)) ∧ K.Ext w w' := by
  obtain ⟨u, rfl⟩ : ∃ u : Nat, n = u := ⟨n.toNat, by omega⟩
  have := l01Dec_any u w (by omega)
  unfold Z.dec; rw [Z.itoa_nat]; exact this
set_option maxRecDepth 100000 in
theorem l01Number_any (n : Int) (w : World) (h0 : -1000000000000000000 < n) (h1 : n < 1000000000000000000) :
    Calls Tryd.prog 84 #[.int .i64 n] w fun e w' => e = .returned (.string (Z.dec n)) ∧ K.Ext w w' := by
  rcases Z.int_cases n with ⟨u, rfl⟩ | ⟨u, hu, rfl⟩
  · have hn : ¬ (u : Int) < 0 := by omega
    have he : Z.dec (u : Int) = Z.str (Lib.decDigits u) := by unfold Z.dec; rw [Z.itoa_nat]
    have IH := l01Dec_any u
    rw [← he] at IH
    obtain ⟨S, hS⟩ : ∃ S, S = Z.dec (u : Int) := ⟨_, rfl⟩
    rw [← hS] at IH ⊢
    obtain ⟨U, hU⟩ : ∃ U : Int, U = (u : Int) := ⟨_, rfl⟩
    rw [← hU] at IH hn ⊢
    have hb : u < 1000000000000000000 := by omega
    clear he hS hU
    go_enter Tryd.func84, Tryd.ntmps84
    go_wp2_with fail
    refine K.call (by with_reducible rfl) (by with_reducible rfl) (IH _ hb) ?_
    rintro e w1 ⟨rfl, f1⟩
    go_wp2
    go_ret
    exact ⟨rfl, f1⟩
  · have hn : -(u : Int) < 0 := by omega
    have he : Z.dec (-(u : Int)) = ⟨#[45]⟩ ++ Z.str (Lib.decDigits u) := by
      unfold Z.dec; rw [Z.itoa_neg hu]
      exact (Z.str_append [45] _).symm
    have IH := l01Dec_any u
    have hsz : (Z.str (Lib.decDigits u)).size ≤ 18 := by rw [Z.str_size]; exact Z.decDigits_le (k := 17) (by omega)
    obtain ⟨S, hS⟩ : ∃ S, S = Z.str (Lib.decDigits u) := ⟨_, rfl⟩
    rw [← hS] at IH hsz he
    rw [he]
    obtain ⟨U, hU⟩ : ∃ U : Int, U = -(u : Int) := ⟨_, rfl⟩
    obtain ⟨V, hV⟩ : ∃ V : Int, V = (u : Int) := ⟨_, rfl⟩
    rw [← hV] at IH
    rw [← hU] at hn ⊢
    have q1 : IntKind.i64.wrap (-U) = V := by rw [hU, hV, Int.neg_neg]; exact IntWalk.i64_in _ (by omega)
    have hov : ¬ (9223372036854775807 < 1 + S.size) := by omega
    have hb : u < 1000000000000000000 := by omega
    clear he hS hU hV
    go_enter Tryd.func84, Tryd.ntmps84
    go_wp2_with fail
    refine K.call (by with_reducible rfl) (by with_reducible rfl) (IH _ hb) ?_
    rintro e w1 ⟨rfl, f1⟩
    go_wp2
    go_ret
    exact ⟨rfl, f1⟩
end Go.Proofs.YtbloldnmlhhbhaaDoor
end
section
namespace Go.Z
/-- the text of a figure -/
def figText (d t : Int) : ByteArray := ((((dec d).extract 0 1 ++ ⟨#[46]⟩) ++ (dec d).extract 1 4) ++ ⟨#[101]⟩) ++ dec t
theorem dec4 {d : Int} (h : 1000 ≤ d) (h' : d ≤ 9999) : (dec d).size = 4 := by
  obtain ⟨u, rfl⟩ : ∃ u : Nat, d = u := ⟨d.toNat, by omega⟩
  unfold dec; rw [itoa_nat, str_size, Lib.decDigits_length, Lib.nDigits_unique 3 u (by omega) (by omega)]
/-- the text of one letter with its exponent -/
def partText (nm : ByteArray) (x : Int) (i : Nat) : ByteArray := if x == 1 then ⟨#[42]⟩ ++ nm.extract i (i + 1) else (⟨#[42]⟩ ++ nm.extract i (i + 1)) ++ (⟨#[94]⟩ ++ dec x)
def fmTextK (F : Fm) : Nat → ByteArray
  | 0 => figText F.dg F.tn
  | k + 1 => fmTextK F k ++ partText F.nm (F.pw.getD k 0) k
def fmText (F : Fm) : ByteArray := fmTextK F F.nm.size
theorem figText_size {d t : Int} (h : 1000 ≤ d) (h' : d ≤ 9999) (t0 : -1000000 ≤ t) (t1 : t ≤ 1000000) : (figText d t).size ≤ 26 := by
  have h1 := dec4 h h'
  have h2 := (dec_size (n := t) (by omega) (by omega)).2
  have e1 : (⟨#[46]⟩ : ByteArray).size = 1 := rfl
  have e2 : (⟨#[101]⟩ : ByteArray).size = 1 := rfl
  unfold figText
  simp only [ByteArray.size_append, ByteArray.size_extract, h1, e1, e2]
  omega
theorem partText_one {nm : ByteArray} {x : Int} {i : Nat} (h : (x == 1) = true) (S : ByteArray) : S ++ (⟨#[42]⟩ ++ nm.extract i (i + 1)) = S ++ partText nm x i := by unfold partText; rw [if_pos h]
theorem partText_other {nm : ByteArray} {x : Int} {i : Nat} (h : (x == 1) = false) (S : ByteArray) : S ++ (⟨#[42]⟩ ++ nm.extract i (i + 1)) ++ (⟨#[94]⟩ ++ dec x) = S ++ partText nm x i := by
  unfold partText; rw [if_neg (by rw [h]; exact Bool.false_ne_true), ByteArray.append_assoc]
theorem partText_one' {nm : ByteArray} {x : Int} {i : Nat} (h : (x == 1) = true) (S : ByteArray) : S ++ ⟨#[42]⟩ ++ nm.extract i (i + 1) = S ++ partText nm x i := by rw [ByteArray.append_assoc]; exact partText_one h S
theorem partText_other' {nm : ByteArray} {x : Int} {i : Nat} (h : (x == 1) = false) (S : ByteArray) : S ++ ⟨#[42]⟩ ++ nm.extract i (i + 1) ++ ⟨#[94]⟩ ++ dec x = S ++ partText nm x i := by
  rw [← partText_other h S]; simp only [ByteArray.append_assoc]
theorem partText_size {nm : ByteArray} {x : Int} {i : Nat} (h : i < nm.size) (x0 : -1000000 ≤ x) (x1 : x ≤ 1000000) : (partText nm x i).size ≤ 23 := by
  have h2 := (dec_size (n := x) (by omega) (by omega)).2
  have e1 : (⟨#[42]⟩ : ByteArray).size = 1 := rfl
  have e2 : (⟨#[94]⟩ : ByteArray).size = 1 := rfl
  unfold partText
  split <;> simp only [ByteArray.size_append, ByteArray.size_extract, e1, e2] <;> omega
end Go.Z
namespace Go.Proofs.YtbloldnmlhhbhaaDoor
open Go.RowKit
set_option maxRecDepth 100000 in
set_option maxHeartbeats 3200000 in
theorem figureText_any (d t : Int) (w : World) (d0 : 1000 ≤ d) (d1 : d ≤ 9999) (t0 : -1000000 ≤ t) (t1 : t ≤ 1000000) (hL : LTab w) :
    Calls Tryd.prog 79 #[.agg #[.int .i64 d, .int .i64 t]] w fun e w' => e = .returned (.string (Z.figText d t)) ∧ K.Ext w w' := by
  have hD := Z.dec4 d0 d1
  have hT := Z.dec_size (n := t) (by omega) (by omega)
  have HD : ∀ w', LTab w' → Calls Tryd.prog 80 #[.int .i64 d] w' fun e w'' => e = .returned (.string (Z.dec d)) ∧ K.Ext w' w'' := fun w' h => decimal_any d w' (by omega) (by omega) h
  have HT : ∀ w', LTab w' → Calls Tryd.prog 80 #[.int .i64 t] w' fun e w'' => e = .returned (.string (Z.dec t)) ∧ K.Ext w' w'' := fun w' h => decimal_any t w' (by omega) (by omega) h
  unfold Z.figText
  obtain ⟨D, hd⟩ : ∃ D, D = Z.dec d := ⟨_, rfl⟩
  obtain ⟨T, ht⟩ : ∃ T, T = Z.dec t := ⟨_, rfl⟩
  rw [← hd] at hD HD ⊢
  rw [← ht] at hT HT ⊢
  clear hd ht
  have hT' : T.size ≤ 20 := hT.2
  clear hT
  have o1 : ¬ (9223372036854775807 < 6 + T.size) := by omega
  go_enter Tryd.func79, Tryd.ntmps79
  go_wp2_with fail
  refine K.call (by with_reducible rfl) (by with_reducible rfl) (HD _ (hL.ext (by repeat' (first | with_reducible exact K.Ext.refl _ | with_reducible assumption | with_reducible refine K.Ext.drew ?_ | with_reducible refine K.Ext.alloc ?_ _ | with_reducible refine K.Ext.setCell ?_ ?_ _ | with_reducible refine K.Ext.trans ?_ (by with_reducible assumption) | (dsimp only; omega) | omega | exact K.Ext.refl _ | assumption | apply K.Ext.drew | refine K.Ext.alloc ?_ _ | refine K.Ext.setCell ?_ ?_ _ | (simp; done) | (simp; omega) | refine K.Ext.trans ?_ (by assumption))))) ?_
  rintro e w1 ⟨rfl, f1⟩
  have hL1 : LTab w1 := (hL.ext (w' := _) ((K.Ext.refl _).alloc _)).ext f1
  have c1 : w1.cell? ⟨w.heap.size, 1, none⟩ = some (.int .i64 t) := f1.cell_of (by go_simp)
  have e1 : K.Ext w w1 := ((K.Ext.refl _).alloc _).trans f1
  go_wp2_with fail
  refine K.wp_region_x 11 [0, 0, 0, 0, 0, 0, 0, 0, 1, 2, 0] [K.SP.any, K.SP.any, K.SP.any, K.SP.any, K.SP.any, K.SP.any, K.SP.any, K.SP.any, K.SP.any, K.SP.is (.string T)] (by kernel_rfl) (by kernel_rfl) ?_
  simp only [List.take_succ_cons, List.take_zero, List.drop_succ_cons, List.drop_zero]
  iterate 8
    apply K.x_pure
    · rfl
    · rfl
    · intro w'; go_simp; first | done | exact K.vint (IntWalk.i64_in _ (by omega)) | rfl | exact ⟨rfl, rfl⟩
    simp only [Act.put, List.setIfInBounds_toArray, List.set]
  apply K.x_held
  · rfl
  · rfl
  · intro w' hx; have hc := hx.all.1.1; have hf := hx.all.1.2; have hc' := hx.all.2.1; have hf' := hx.all.2.2; go_simp; first | done | rfl | exact ⟨rfl, rfl⟩
  simp only [Act.put, List.setIfInBounds_toArray, List.set]
  apply K.x_call_is
  · rfl
  · rfl
  · rfl
  · intro w'; go_simp; first | done | rfl | exact ⟨rfl, rfl⟩
  · intro w' hx hp; have hc := hx.all.1.1; have hf := hx.all.1.2; have hc' := hx.all.2.1; have hf' := hx.all.2.2; exact HT _ (K.TabV.ext hL1 (by repeat' (first | with_reducible exact K.Ext.refl _ | with_reducible assumption | with_reducible refine K.Ext.drew ?_ | with_reducible refine K.Ext.alloc ?_ _ | with_reducible refine K.Ext.setCell ?_ ?_ _ | with_reducible refine K.Ext.trans ?_ (by with_reducible assumption) | (dsimp only; omega) | omega | exact K.Ext.refl _ | assumption | apply K.Ext.drew | refine K.Ext.alloc ?_ _ | refine K.Ext.setCell ?_ ?_ _ | (simp; done) | (simp; omega) | refine K.Ext.trans ?_ (by assumption))))
  intro w_9_ hx_9_
  simp only [Act.put, List.setIfInBounds_toArray, List.set]
  apply K.x_pure
  · rfl
  · rfl
  · intro w'; go_simp; first | done | exact K.vint (IntWalk.i64_in _ (by omega)) | rfl | exact ⟨rfl, rfl⟩
  simp only [Act.put, List.setIfInBounds_toArray, List.set]
  apply K.x_done
  intro w2 h_x
  have hx2 := hx_9_.trans h_x
  clear h_x hx_9_
  obtain ⟨⟨hcw2, hfw2⟩, hc'w2, hf'w2⟩ := hx2.all
  go_wp2_with fail
  refine NoPanic.normal ?_
  go_wp2
  go_ret
  exact ⟨rfl, (by repeat' (first | with_reducible exact K.Ext.refl _ | with_reducible assumption | with_reducible refine K.Ext.drew ?_ | with_reducible refine K.Ext.alloc ?_ _ | with_reducible refine K.Ext.setCell ?_ ?_ _ | with_reducible refine K.Ext.trans ?_ (by with_reducible assumption) | (dsimp only; omega) | omega | exact K.Ext.refl _ | assumption | apply K.Ext.drew | refine K.Ext.alloc ?_ _ | refine K.Ext.setCell ?_ ?_ _ | (simp; done) | (simp; omega) | refine K.Ext.trans ?_ (by assumption)))⟩
set_option maxRecDepth 100000 in
set_option maxHeartbeats 3200000 in
theorem l02Text_any (d t : Int) (w : World) (d0 : 1000 ≤ d) (d1 : d ≤ 9999) (t0 : -1000000 ≤ t) (t1 : t ≤ 1000000) :
    Calls Tryd.prog 83 #[.agg #[.int .i64 d, .int .i64 t]] w fun e w' => e = .returned (.string (Z.figText d t)) ∧ K.Ext w w' := by
  have hD := Z.dec4 d0 d1
  have hT := Z.dec_size (n := t) (by omega) (by omega)
  have HD : ∀ w', Calls Tryd.prog 103 #[.int .i64 d] w' fun e w'' => e = .returned (.string (Z.dec d)) ∧ K.Ext w' w'' := fun w' => l01Dec_int d w' (by omega) (by omega)
  have HT : ∀ w', Calls Tryd.prog 84 #[.int .i64 t] w' fun e w'' => e = .returned (.string (Z.dec t)) ∧ K.Ext w' w'' := fun w' => l01Number_any t w' (by omega) (by omega)
  unfold Z.figText
  obtain ⟨D, hd⟩ : ∃ D, D = Z.dec d := ⟨_, rfl⟩
  obtain ⟨T, ht⟩ : ∃ T, T = Z.dec t := ⟨_, rfl⟩
  rw [← hd] at hD HD ⊢
  rw [← ht] at hT HT ⊢
  clear hd ht
  have hT' : T.size ≤ 20 := hT.2
  clear hT
  have o1 : ¬ (9223372036854775807 < 6 + T.size) := by omega
  go_enter Tryd.func83, Tryd.ntmps83
  go_wp2_with fail
  refine K.call (by with_reducible rfl) (by with_reducible rfl) (HD _) ?_
  rintro e w1 ⟨rfl, f1⟩
  have c1 : w1.cell? ⟨w.heap.size, 1, none⟩ = some (.int .i64 t) := f1.cell_of (by go_simp)
  have e1 : K.Ext w w1 := ((K.Ext.refl _).alloc _).trans f1
  go_wp2_with fail
  refine K.wp_region_x 11 [0, 0, 0, 0, 0, 0, 0, 0, 1, 2, 0] [K.SP.any, K.SP.any, K.SP.any, K.SP.any, K.SP.any, K.SP.any, K.SP.any, K.SP.any, K.SP.any, K.SP.is (.string T)] (by kernel_rfl) (by kernel_rfl) ?_
  simp only [List.take_succ_cons, List.take_zero, List.drop_succ_cons, List.drop_zero]
  iterate 8
    apply K.x_pure
    · rfl
    · rfl
    · intro w'; go_simp; first | done | exact K.vint (IntWalk.i64_in _ (by omega)) | rfl | exact ⟨rfl, rfl⟩
    simp only [Act.put, List.setIfInBounds_toArray, List.set]
  apply K.x_held
  · rfl
  · rfl
  · intro w' hx; have hc := hx.all.1.1; have hf := hx.all.1.2; have hc' := hx.all.2.1; have hf' := hx.all.2.2; go_simp; first | done | rfl | exact ⟨rfl, rfl⟩
  simp only [Act.put, List.setIfInBounds_toArray, List.set]
  apply K.x_call_is
  · rfl
  · rfl
  · rfl
  · intro w'; go_simp; first | done | rfl | exact ⟨rfl, rfl⟩
  · intro w' hx hp; have hc := hx.all.1.1; have hf := hx.all.1.2; have hc' := hx.all.2.1; have hf' := hx.all.2.2; exact HT _
  intro w_9_ hx_9_
  simp only [Act.put, List.setIfInBounds_toArray, List.set]
  apply K.x_pure
  · rfl
  · rfl
  · intro w'; go_simp; first | done | exact K.vint (IntWalk.i64_in _ (by omega)) | rfl | exact ⟨rfl, rfl⟩
  simp only [Act.put, List.setIfInBounds_toArray, List.set]
  apply K.x_done
  intro w2 h_x
  have hx2 := hx_9_.trans h_x
  clear h_x hx_9_
  obtain ⟨⟨hcw2, hfw2⟩, hc'w2, hf'w2⟩ := hx2.all
  go_wp2_with fail
  refine NoPanic.normal ?_
  go_wp2
  go_ret
  exact ⟨rfl, (by repeat' (first | with_reducible exact K.Ext.refl _ | with_reducible assumption | with_reducible refine K.Ext.drew ?_ | with_reducible refine K.Ext.alloc ?_ _ | with_reducible refine K.Ext.setCell ?_ ?_ _ | with_reducible refine K.Ext.trans ?_ (by with_reducible assumption) | (dsimp only; omega) | omega | exact K.Ext.refl _ | assumption | apply K.Ext.drew | refine K.Ext.alloc ?_ _ | refine K.Ext.setCell ?_ ?_ _ | (simp; done) | (simp; omega) | refine K.Ext.trans ?_ (by assumption)))⟩
set_option maxRecDepth 100000 in
set_option maxHeartbeats 3200000 in
theorem formulaText_any (F : Z.Fm) {lo hi : Nat} {p : Value} (w : World) (d0 : 1000 ≤ F.dg) (d1 : F.dg ≤ 9999) (t0 : -1000000 ≤ F.tn) (t1 : F.tn ≤ 1000000) (hl : F.pw.length = F.nm.size) (hn : F.nm.size ≤ 7)
    (hp : ∀ k, k < F.pw.length → -1000000 ≤ F.pw.getD k 0 ∧ F.pw.getD k 0 ≤ 1000000) (h : K.ints w lo hi p F.pw) (hL : LTab w) :
    Calls Tryd.prog 43 #[.agg #[.int .i64 F.dg, .int .i64 F.tn, .string F.nm, p]] w fun e w' => e = .returned (.string (Z.fmText F)) ∧ K.Ext w w' := by
  obtain ⟨o, cap, rfl, hh⟩ := h
  have HT : ∀ w', LTab w' → Calls Tryd.prog 79 #[.agg #[.int .i64 F.dg, .int .i64 F.tn]] w' fun e w'' => e = .returned (.string (Z.figText F.dg F.tn)) ∧ K.Ext w' w'' := fun w' h => figureText_any _ _ w' d0 d1 t0 t1 h
  have HS := Z.figText_size d0 d1 t0 t1
  obtain ⟨S0, hS0⟩ : ∃ S, S = Z.figText F.dg F.tn := ⟨_, rfl⟩
  rw [← hS0] at HT HS
  have HZ := Z.hide hS0
  have HN := Z.hide hl
  have HP := Z.hide hp
  clear hS0 hl hp d0 d1 t0 t1
  go_enter Tryd.func43, Tryd.ntmps43
  go_wp2_with fail
  refine K.call (by with_reducible rfl) (by with_reducible rfl) (HT _ (hL.ext (by repeat' (first | with_reducible exact K.Ext.refl _ | with_reducible assumption | with_reducible refine K.Ext.drew ?_ | with_reducible refine K.Ext.alloc ?_ _ | with_reducible refine K.Ext.setCell ?_ ?_ _ | with_reducible refine K.Ext.trans ?_ (by with_reducible assumption) | (dsimp only; omega) | omega | exact K.Ext.refl _ | assumption | apply K.Ext.drew | refine K.Ext.alloc ?_ _ | refine K.Ext.setCell ?_ ?_ _ | (simp; done) | (simp; omega) | refine K.Ext.trans ?_ (by assumption))))) ?_
  rintro e w1 ⟨rfl, f1⟩
  have e1 : K.Ext w w1 := ((K.Ext.refl _).alloc _).trans f1
  have c2 : w1.cell? ⟨w.heap.size, 2, none⟩ = some (.string F.nm) := f1.cell_of (by go_simp)
  have c3 : w1.cell? ⟨w.heap.size, 3, none⟩ = some (.slice o F.pw.length cap) := f1.cell_of (by go_simp)
  have C2 := Z.hide c2
  clear HT f1
  go_wp2_with fail
  clear c2 c3
  go_loopw [3, 12] (fun u i wr => ∃ (k : Nat) (S : ByteArray), k ≤ F.pw.length ∧ u = .string S ∧ i = .int .i64 k ∧ Hid (S = Z.fmTextK F k) ∧ S.size ≤ 26 + 23 * k ∧ Hid (K.Ext w1 wr)) (fun _ i _ => F.pw.length - (intOf i).toNat)
  case atStart => exact ⟨0, S0, Nat.zero_le _, rfl, rfl, HZ, HS, Z.hide (K.Ext.refl _)⟩
  case round =>
    obtain ⟨k, S, hk, rfl, rfl, HK, hs, HX⟩ := hrel
    by_cases hlt : k < F.pw.length
    · have hln : k < F.nm.size := by rw [← HN.out]; exact hlt
      have HW : Hid (K.Ext w wr) := Z.hide (e1.trans HX.out)
      obtain ⟨b, off, rfl, _, _, hc⟩ := hh (by intro h0; simp [h0] at hlt)
      have hck : wr.cell? ⟨b, off + k, none⟩ = some (.int .i64 (F.pw.getD k 0)) := HW.out.cell_of (hc k hlt)
      have hcn : wr.cell? ⟨w.heap.size, 2, none⟩ = some (.string F.nm) := HX.out.cell_of C2.out
      have HL := Z.hide (hL.ext HW.out)
      have HB := Z.hide (HP.out k hlt)
      have i0 : (0 : Int) ≤ (k : Int) := Int.natCast_nonneg k
      have i1 : (k : Int) < (F.pw.length : Int) := by omega
      have i2 : (k : Int) + 1 ≤ (F.nm.size : Int) := by omega
      have i3 : (0 : Int) ≤ (k : Int) + 1 := by omega
      have qk : IntKind.i64.wrap ((k : Int) + 1) = (k : Int) + 1 := IntWalk.i64_in _ (by omega)
      have hsl := K.cut_str (P := Tryd.prog) (t := 9) (s := F.nm) (i := k) (j := k + 1) (a := (k : Int)) (b := (k : Int) + 1) Tryd.underlying9 rfl (by omega) (by omega) (by omega)
      have m1 : min (k + 1) F.nm.size - k = 1 := by omega
      have o1 : ¬ (9223372036854775807 < S.size + 2) := by omega
      have o1' : ¬ (9223372036854775807 < S.size + (1 + 1)) := by omega
      have HK1 : Hid (Z.fmTextK F (k + 1) = Z.fmTextK F k ++ Z.partText F.nm (F.pw.getD k 0) k) := Z.hide rfl
      have HPS := Z.hide (Z.partText_size hln HB.out.1 HB.out.2)
      have HD : ∀ w', LTab w' → Calls Tryd.prog 80 #[.int .i64 (F.pw.getD k 0)] w' fun e w'' => e = .returned (.string (Z.dec (F.pw.getD k 0))) ∧ K.Ext w' w'' := fun w' h => decimal_any _ w' (by have := HB.out; omega) (by have := HB.out; omega) h
      clear hc hh
      generalize F.pw.getD k 0 = x at *
      have hds := (Z.dec_size (n := x) (by have := HB.out; omega) (by have := HB.out; omega)).2
      cases hx : (x == 1)
      · have HF := Z.hide (Z.partText_other (nm := F.nm) (i := k) hx S)
        obtain ⟨D, hD⟩ : ∃ D, D = Z.dec x := ⟨_, rfl⟩
        rw [← hD] at HD hds HF
        have o2 : ¬ (9223372036854775807 < 1 + D.size) := by omega
        have o3 : ¬ (9223372036854775807 < S.size + 2 + (1 + D.size)) := by omega
        have o3' : ¬ (9223372036854775807 < S.size + (1 + 1) + (1 + D.size)) := by omega
        clear hD
        go_wp2_with fail
        refine K.call (by with_reducible rfl) (by with_reducible rfl) (HD _ HL.out) ?_
        rintro e w2 ⟨rfl, f2⟩
        go_wp2
        go_roundw
        case rel => exact ⟨k + 1, _, by omega, rfl, by go_num, Z.hide (by rw [HF.out, HK1.out, HK.out]), by rw [HF.out, ByteArray.size_append]; have := HPS.out; omega, Z.hide (HX.out.trans f2)⟩
        case measure => simp [intOf]; omega
      · have HF := Z.hide (Z.partText_one (nm := F.nm) (i := k) hx S)
        go_wp2
        go_roundw
        case rel => exact ⟨k + 1, _, by omega, rfl, by go_num, Z.hide (by rw [HF.out, HK1.out, HK.out]), by rw [HF.out, ByteArray.size_append]; have := HPS.out; omega, HX⟩
        case measure => simp [intOf]; omega
    · obtain rfl : k = F.pw.length := by omega
      clear hh
      go_wp2
      go_ret
      exact ⟨by rw [show Z.fmText F = Z.fmTextK F F.pw.length by unfold Z.fmText; rw [HN.out], ← HK.out]; rfl, e1.trans HX.out⟩
set_option maxRecDepth 100000 in
set_option maxHeartbeats 3200000 in
theorem l18Text_any (F : Z.Fm) {lo hi : Nat} {p : Value} (w : World) (d0 : 1000 ≤ F.dg) (d1 : F.dg ≤ 9999) (t0 : -1000000 ≤ F.tn) (t1 : F.tn ≤ 1000000) (hl : F.pw.length = F.nm.size) (hn : F.nm.size ≤ 7)
    (hp : ∀ k, k < F.pw.length → -1000000 ≤ F.pw.getD k 0 ∧ F.pw.getD k 0 ≤ 1000000) (h : K.ints w lo hi p F.pw) :
    Calls Tryd.prog 45 #[.agg #[.int .i64 F.dg, .int .i64 F.tn, .string F.nm, p]] w fun e w' => e = .returned (.string (Z.fmText F)) ∧ K.Ext w w' := by
  obtain ⟨o, cap, rfl, hh⟩ := h
  have HT : ∀ w', Calls Tryd.prog 83 #[.agg #[.int .i64 F.dg, .int .i64 F.tn]] w' fun e w'' => e = .returned (.string (Z.figText F.dg F.tn)) ∧ K.Ext w' w'' := fun w' => l02Text_any _ _ w' d0 d1 t0 t1
  have HS := Z.figText_size d0 d1 t0 t1
  obtain ⟨S0, hS0⟩ : ∃ S, S = Z.figText F.dg F.tn := ⟨_, rfl⟩
  rw [← hS0] at HT HS
  have HZ := Z.hide hS0
  have HN := Z.hide hl
  have HP := Z.hide hp
  clear hS0 hl hp d0 d1 t0 t1
  go_enter Tryd.func45, Tryd.ntmps45
  go_wp2_with fail
  refine K.call (by with_reducible rfl) (by with_reducible rfl) (HT _) ?_
  rintro e w1 ⟨rfl, f1⟩
  have e1 : K.Ext w w1 := ((K.Ext.refl _).alloc _).trans f1
  have c2 : w1.cell? ⟨w.heap.size, 2, none⟩ = some (.string F.nm) := f1.cell_of (by go_simp)
  have c3 : w1.cell? ⟨w.heap.size, 3, none⟩ = some (.slice o F.pw.length cap) := f1.cell_of (by go_simp)
  have C2 := Z.hide c2
  have C3 := Z.hide c3
  clear HT f1
  go_wp2_with fail
  clear c2 c3
  go_loopw [3, 4] (fun u i wr => ∃ (k : Nat) (S : ByteArray), k ≤ F.nm.size ∧ u = .string S ∧ i = .int .i64 k ∧ Hid (S = Z.fmTextK F k) ∧ S.size ≤ 26 + 23 * k ∧ Hid (K.Ext w1 wr)) (fun _ i _ => F.nm.size - (intOf i).toNat)
  case atStart => exact ⟨0, S0, Nat.zero_le _, rfl, rfl, HZ, HS, Z.hide (K.Ext.refl _)⟩
  case round =>
    obtain ⟨k, S, hk, rfl, rfl, HK, hs, HX⟩ := hrel
    have hcn : wr.cell? ⟨w.heap.size, 2, none⟩ = some (.string F.nm) := HX.out.cell_of C2.out
    by_cases hln : k < F.nm.size
    · have hlt : k < F.pw.length := by rw [HN.out]; exact hln
      have HW : Hid (K.Ext w wr) := Z.hide (e1.trans HX.out)
      obtain ⟨b, off, rfl, _, _, hc⟩ := hh (by intro h0; simp [h0] at hlt)
      have hck : wr.cell? ⟨b, off + k, none⟩ = some (.int .i64 (F.pw.getD k 0)) := HW.out.cell_of (hc k hlt)
      have hc3 : wr.cell? ⟨w.heap.size, 3, none⟩ = some (.slice (some ⟨b, off, none⟩) F.pw.length cap) := HX.out.cell_of C3.out
      have HB := Z.hide (HP.out k hlt)
      have i0 : (0 : Int) ≤ (k : Int) := Int.natCast_nonneg k
      have i1 : (k : Int) < (F.pw.length : Int) := by omega
      have i2 : (k : Int) + 1 ≤ (F.nm.size : Int) := by omega
      have i3 : (0 : Int) ≤ (k : Int) + 1 := by omega
      have qk : IntKind.i64.wrap ((k : Int) + 1) = (k : Int) + 1 := IntWalk.i64_in _ (by omega)
      have hsl := K.cut_str (P := Tryd.prog) (t := 9) (s := F.nm) (i := k) (j := k + 1) (a := (k : Int)) (b := (k : Int) + 1) Tryd.underlying9 rfl (by omega) (by omega) (by omega)
      have m1 : min (k + 1) F.nm.size - k = 1 := by omega
      have o1 : ¬ (9223372036854775807 < S.size + 1) := by omega
      have o2 : ¬ (9223372036854775807 < S.size + 1 + 1) := by omega
      have o2' : ¬ (9223372036854775807 < S.size + 2) := by omega
      have o3 : ¬ (9223372036854775807 < S.size + 1 + 1 + 1) := by omega
      have o3' : ¬ (9223372036854775807 < S.size + 3) := by omega
      have o3'' : ¬ (9223372036854775807 < S.size + 2 + 1) := by omega
      have HK1 : Hid (Z.fmTextK F (k + 1) = Z.fmTextK F k ++ Z.partText F.nm (F.pw.getD k 0) k) := Z.hide rfl
      have HPS := Z.hide (Z.partText_size hln HB.out.1 HB.out.2)
      have HD : ∀ w', Calls Tryd.prog 84 #[.int .i64 (F.pw.getD k 0)] w' fun e w'' => e = .returned (.string (Z.dec (F.pw.getD k 0))) ∧ K.Ext w' w'' := fun w' => l01Number_any _ w' (by have := HB.out; omega) (by have := HB.out; omega)
      clear hc hh
      generalize F.pw.getD k 0 = x at *
      have hds := (Z.dec_size (n := x) (by have := HB.out; omega) (by have := HB.out; omega)).2
      cases hx : (x == 1)
      · have HF := Z.hide (Z.partText_other' (nm := F.nm) (i := k) hx S)
        obtain ⟨D, hD⟩ : ∃ D, D = Z.dec x := ⟨_, rfl⟩
        rw [← hD] at HD hds HF
        have o4 : ¬ (9223372036854775807 < S.size + 1 + 1 + 1 + D.size) := by omega
        have o4' : ¬ (9223372036854775807 < S.size + 3 + D.size) := by omega
        clear hD
        go_wp2_with fail
        refine K.call (by with_reducible rfl) (by with_reducible rfl) (HD _) ?_
        rintro e w2 ⟨rfl, f2⟩
        go_wp2
        go_roundw
        case rel => exact ⟨k + 1, _, by omega, rfl, by go_num, Z.hide (by rw [HF.out, HK1.out, HK.out]), by rw [HF.out, ByteArray.size_append]; have := HPS.out; omega, Z.hide (HX.out.trans f2)⟩
        case measure => simp [intOf]; omega
      · have HF := Z.hide (Z.partText_one' (nm := F.nm) (i := k) hx S)
        go_wp2
        go_roundw
        case rel => exact ⟨k + 1, _, by omega, rfl, by go_num, Z.hide (by rw [HF.out, HK1.out, HK.out]), by rw [HF.out, ByteArray.size_append]; have := HPS.out; omega, HX⟩
        case measure => simp [intOf]; omega
    · obtain rfl : k = F.nm.size := by omega
      clear hh
      go_wp2
      go_ret
      exact ⟨by rw [show Z.fmText F = Z.fmTextK F F.nm.size from rfl, ← HK.out]; rfl, e1.trans HX.out⟩
end Go.Proofs.YtbloldnmlhhbhaaDoor
end
section
namespace Go.Z
def FormulaText (F : Fm) : ByteArray × Int := if isFormula F then (fmText F, 0) else (⟨#[]⟩, 1)
/-- what the text of a formula asks -/
theorem valid_parts {F : Fm} (h : isFormula F = true) : (1000 ≤ F.dg ∧ F.dg ≤ 9999) ∧ (-1000000 ≤ F.tn ∧ F.tn ≤ 1000000) ∧ F.pw.length = F.nm.size ∧ F.nm.size ≤ 7 ∧ ∀ k, k < F.pw.length → -1000000 ≤ F.pw.getD k 0 ∧ F.pw.getD k 0 ≤ 1000000 := by
  have hl := isFormula_len h
  have hv := fun k (hk : k < F.nm.size) => valid_at h k hk
  simp only [isFormula, isFig, Bool.and_eq_true, decide_eq_true_eq] at h
  refine ⟨h.1.1.1.1, ?_, hl.1, by omega, fun k hk => ?_⟩
  · have := h.1.1.1.2; omega
  · have := hv k (by omega)
    simp only [okAt, Bool.and_eq_true, decide_eq_true_eq] at this
    omega
end Go.Z
namespace Go.Proofs.YtbloldnmlhhbhaaDoor
open Go.RowKit
set_option maxRecDepth 100000 in
set_option maxHeartbeats 3200000 in
theorem impl_FormulaText (F : Z.Fm) {lo hi : Nat} {p : Value} (w : World) (hm : F.pw.length ≤ 1048576) (hn : F.nm.size ≤ 1048576) (h : K.ints w lo hi p F.pw) (hL : LTab w) :
    Calls Tryd.prog 12 #[.agg #[.int .i64 F.dg, .int .i64 F.tn, .string F.nm, p]] w fun e w' => e = .returned (.tuple #[.string (Z.FormulaText F).1, .int .i64 (Z.FormulaText F).2]) ∧ K.Ext w w' := by
  obtain ⟨o, cap, rfl, _⟩ := id h
  cases hf : Z.isFormula F
  · have HE : Hid (Z.FormulaText F = (⟨#[]⟩, 1)) := Z.hide (by unfold Z.FormulaText; rw [hf]; rfl)
    go_enter Tryd.func12, Tryd.ntmps12
    go_wp2_with fail
    refine K.call (by with_reducible rfl) (by with_reducible rfl) (impl_IsFormula F _ hm hn (h.ext (by repeat' (first | with_reducible exact K.Ext.refl _ | with_reducible assumption | with_reducible refine K.Ext.drew ?_ | with_reducible refine K.Ext.alloc ?_ _ | with_reducible refine K.Ext.setCell ?_ ?_ _ | with_reducible refine K.Ext.trans ?_ (by with_reducible assumption) | (dsimp only; omega) | omega | exact K.Ext.refl _ | assumption | apply K.Ext.drew | refine K.Ext.alloc ?_ _ | refine K.Ext.setCell ?_ ?_ _ | (simp; done) | (simp; omega) | refine K.Ext.trans ?_ (by assumption))))) ?_
    rintro e w1 ⟨rfl, f1⟩
    go_wp2
    go_ret2
    exact ⟨by rw [HE.out]; rfl, ((K.Ext.refl _).alloc _).trans f1⟩
  · have HE : Hid (Z.FormulaText F = (Z.fmText F, 0)) := Z.hide (by unfold Z.FormulaText; rw [hf]; rfl)
    have HV := Z.hide (Z.valid_parts hf)
    go_enter Tryd.func12, Tryd.ntmps12
    go_wp2_with fail
    refine K.call (by with_reducible rfl) (by with_reducible rfl) (impl_IsFormula F _ hm hn (h.ext (by repeat' (first | with_reducible exact K.Ext.refl _ | with_reducible assumption | with_reducible refine K.Ext.drew ?_ | with_reducible refine K.Ext.alloc ?_ _ | with_reducible refine K.Ext.setCell ?_ ?_ _ | with_reducible refine K.Ext.trans ?_ (by with_reducible assumption) | (dsimp only; omega) | omega | exact K.Ext.refl _ | assumption | apply K.Ext.drew | refine K.Ext.alloc ?_ _ | refine K.Ext.setCell ?_ ?_ _ | (simp; done) | (simp; omega) | refine K.Ext.trans ?_ (by assumption))))) ?_
    rintro e w1 ⟨rfl, f1⟩
    have e1 : K.Ext w w1 := ((K.Ext.refl _).alloc _).trans f1
    obtain ⟨c0, c1, c2, c3⟩ := K.c4 f1 w.heap.size (.int .i64 F.dg) (.int .i64 F.tn) (.string F.nm) (.slice o F.pw.length cap) ⟨by go_simp, by go_simp, by go_simp, by go_simp⟩
    go_wp2_with fail
    refine K.call (by with_reducible rfl) (by with_reducible rfl) (formulaText_any F _ HV.out.1.1 HV.out.1.2 HV.out.2.1.1 HV.out.2.1.2 HV.out.2.2.1 HV.out.2.2.2.1 HV.out.2.2.2.2 (h.ext e1) (hL.ext e1)) ?_
    rintro e w2 ⟨rfl, f2⟩
    go_wp2
    go_ret2
    exact ⟨by rw [HE.out]; rfl, e1.trans f2⟩
set_option maxRecDepth 100000 in
set_option maxHeartbeats 3200000 in
theorem spec_FormulaText (F : Z.Fm) {lo hi : Nat} {p : Value} (w : World) (hm : F.pw.length ≤ 1048576) (hn : F.nm.size ≤ 1048576) (h : K.ints w lo hi p F.pw) :
    Calls Tryd.prog 13 #[.agg #[.int .i64 F.dg, .int .i64 F.tn, .string F.nm, p]] w fun e w' => e = .returned (.tuple #[.string (Z.FormulaText F).1, .int .i64 (Z.FormulaText F).2]) ∧ K.Ext w w' := by
  obtain ⟨o, cap, rfl, _⟩ := id h
  cases hf : Z.isFormula F
  · have HE : Hid (Z.FormulaText F = (⟨#[]⟩, 1)) := Z.hide (by unfold Z.FormulaText; rw [hf]; rfl)
    go_enter Tryd.func13, Tryd.ntmps13
    go_wp2_with fail
    refine K.call (by with_reducible rfl) (by with_reducible rfl) (spec_IsFormula F _ hm hn (h.ext (by repeat' (first | with_reducible exact K.Ext.refl _ | with_reducible assumption | with_reducible refine K.Ext.drew ?_ | with_reducible refine K.Ext.alloc ?_ _ | with_reducible refine K.Ext.setCell ?_ ?_ _ | with_reducible refine K.Ext.trans ?_ (by with_reducible assumption) | (dsimp only; omega) | omega | exact K.Ext.refl _ | assumption | apply K.Ext.drew | refine K.Ext.alloc ?_ _ | refine K.Ext.setCell ?_ ?_ _ | (simp; done) | (simp; omega) | refine K.Ext.trans ?_ (by assumption))))) ?_
    rintro e w1 ⟨rfl, f1⟩
    go_wp2
    go_ret2
    exact ⟨by rw [HE.out]; rfl, ((K.Ext.refl _).alloc _).trans f1⟩
  · have HE : Hid (Z.FormulaText F = (Z.fmText F, 0)) := Z.hide (by unfold Z.FormulaText; rw [hf]; rfl)
    have HV := Z.hide (Z.valid_parts hf)
    go_enter Tryd.func13, Tryd.ntmps13
    go_wp2_with fail
    refine K.call (by with_reducible rfl) (by with_reducible rfl) (spec_IsFormula F _ hm hn (h.ext (by repeat' (first | with_reducible exact K.Ext.refl _ | with_reducible assumption | with_reducible refine K.Ext.drew ?_ | with_reducible refine K.Ext.alloc ?_ _ | with_reducible refine K.Ext.setCell ?_ ?_ _ | with_reducible refine K.Ext.trans ?_ (by with_reducible assumption) | (dsimp only; omega) | omega | exact K.Ext.refl _ | assumption | apply K.Ext.drew | refine K.Ext.alloc ?_ _ | refine K.Ext.setCell ?_ ?_ _ | (simp; done) | (simp; omega) | refine K.Ext.trans ?_ (by assumption))))) ?_
    rintro e w1 ⟨rfl, f1⟩
    have e1 : K.Ext w w1 := ((K.Ext.refl _).alloc _).trans f1
    obtain ⟨c0, c1, c2, c3⟩ := K.c4 f1 w.heap.size (.int .i64 F.dg) (.int .i64 F.tn) (.string F.nm) (.slice o F.pw.length cap) ⟨by go_simp, by go_simp, by go_simp, by go_simp⟩
    go_wp2_with fail
    refine K.call (by with_reducible rfl) (by with_reducible rfl) (l18Text_any F _ HV.out.1.1 HV.out.1.2 HV.out.2.1.1 HV.out.2.1.2 HV.out.2.2.1 HV.out.2.2.2.1 HV.out.2.2.2.2 (h.ext e1)) ?_
    rintro e w2 ⟨rfl, f2⟩
    go_wp2
    go_ret2
    exact ⟨by rw [HE.out]; rfl, e1.trans f2⟩
end Go.Proofs.YtbloldnmlhhbhaaDoor
end
section
namespace Go.Proofs.YtbloldnmlhhbhaaDoor
open Go.RowKit
set_option maxHeartbeats 8000000 in
theorem law_FnExactFormulaText (F0 : Z.Fm) (v0 : Value) (w : World) (pn0 : F0.nm.size ≤ 9223372036854775807) (pl0 : (F0.pw.length : Int) ≤ 9223372036854775807) (h0 : K.ints w 0 w.heap.size v0 F0.pw) (hL : LTab w) :
    Calls Tryd.prog 4 #[.agg #[.int .i64 F0.dg, .int .i64 F0.tn, .string F0.nm, v0]] w fun e w' => e = .returned (.bool true) ∧ K.Ext w w' := by
  have F1_0 := h0
  obtain ⟨o0_0, c0_0, rfl, _⟩ := h0
  have X0 : K.Ext w w := K.Ext.refl w
  go_enter Tryd.func4, Tryd.ntmps4
  go_wp2_with (go_at_call 18; refine K.call (by with_reducible rfl) (by with_reducible rfl) (szFormula_any F0 _ _ _ _ _ (by omega) (by omega) pn0 pl0 (K.ints.alloc F1_0 _)) ?_; rintro e w1 ⟨⟨r1, rfl, u1_, b1⟩, x1⟩; have s1 : w.heap.size + 1 ≤ w1.heap.size := (by have h_ := x1.size; (try simp at h_); omega); have X1 := K.Ext.trans (K.Ext.alloc X0 _) x1; obtain ⟨c1_0_0, c1_0_1, c1_0_2, c1_0_3⟩ := K.c4 x1 (w.heap.size) (.int .i64 F0.dg) (.int .i64 F0.tn) (.string F0.nm) (.slice o0_0 F0.pw.length c0_0) (by go_simp); have z1_0 : w.heap.size < w1.heap.size := World.block_lt_of_cell? w1 _ c1_0_0; have d1_0 : ¬ (w.heap.size = w1.heap.size) := (by omega); have e1_0 : ¬ (w1.heap.size = w.heap.size) := (by omega); have F1_1 := K.ints.ext (K.ints.alloc F1_0 _) x1; clear F1_0)
  · go_ret
    exact ⟨rfl, X1⟩
  obtain ⟨hm1, hn1⟩ := b1.resolve_left (by omega)
  go_wp2_with (go_at_call 19; refine K.call (by with_reducible rfl) (by with_reducible rfl) (toFormula_any F0 _ _ _ _ hm1 (F1_1)) ?_; rintro e w2 ⟨⟨p2, rfl, g2⟩, x2⟩; obtain ⟨o2, k2, rfl, _⟩ := K.own.ints g2; have F2_2 : K.own w2 (w1.heap.size) (w2.heap.size) (.slice o2 F0.pw.length k2) (F0.pw) := g2.mono (by simp) (Nat.le_refl _); clear g2; have s2 : w1.heap.size ≤ w2.heap.size := (by have h_ := x2.size; (try simp at h_); omega); have X2 := K.Ext.trans (X1) x2; obtain ⟨c2_0_0, c2_0_1, c2_0_2, c2_0_3⟩ := K.c4 x2 (w.heap.size) (.int .i64 F0.dg) (.int .i64 F0.tn) (.string F0.nm) (.slice o0_0 F0.pw.length c0_0) (by go_simp); have z2_0 : w.heap.size < w2.heap.size := World.block_lt_of_cell? w2 _ c2_0_0; have d2_0 : ¬ (w.heap.size = w2.heap.size) := (by omega); have e2_0 : ¬ (w2.heap.size = w.heap.size) := (by omega); have F1_2 := K.ints.ext (F1_1) x2; clear c1_0_0 c1_0_1 c1_0_2 c1_0_3 z1_0 d1_0 e1_0 F1_1)
  go_wp2_with (go_at_call 13; refine K.call (by with_reducible rfl) (by with_reducible rfl) (spec_FormulaText F0 _ hm1 hn1 (K.own.ints (F2_2))) ?_; rintro e w3 ⟨rfl, x3⟩; have s3 : w2.heap.size ≤ w3.heap.size := (by have h_ := x3.size; (try simp at h_); omega); have X3 := K.Ext.trans (X2) x3; obtain ⟨c3_0_0, c3_0_1, c3_0_2, c3_0_3⟩ := K.c4 x3 (w.heap.size) (.int .i64 F0.dg) (.int .i64 F0.tn) (.string F0.nm) (.slice o0_0 F0.pw.length c0_0) (by go_simp); have z3_0 : w.heap.size < w3.heap.size := World.block_lt_of_cell? w3 _ c3_0_0; have d3_0 : ¬ (w.heap.size = w3.heap.size) := (by omega); have e3_0 : ¬ (w3.heap.size = w.heap.size) := (by omega); have F1_3 := K.ints.ext (F1_2) x3; have F2_3 := K.own.ext (F2_2) x3; clear c2_0_0 c2_0_1 c2_0_2 c2_0_3 z2_0 d2_0 e2_0 F1_2 F2_2)
  go_wp2_with (go_at_call 19; refine K.call (by with_reducible rfl) (by with_reducible rfl) (toFormula_any F0 _ _ _ _ hm1 (F1_3)) ?_; rintro e w4 ⟨⟨p4, rfl, g4⟩, x4⟩; obtain ⟨o4, k4, rfl, _⟩ := K.own.ints g4; have F3_4 : K.own w4 (w3.heap.size) (w4.heap.size) (.slice o4 F0.pw.length k4) (F0.pw) := g4.mono (by simp) (Nat.le_refl _); clear g4; have s4 : w3.heap.size ≤ w4.heap.size := (by have h_ := x4.size; (try simp at h_); omega); have X4 := K.Ext.trans (X3) x4; obtain ⟨c4_0_0, c4_0_1, c4_0_2, c4_0_3⟩ := K.c4 x4 (w.heap.size) (.int .i64 F0.dg) (.int .i64 F0.tn) (.string F0.nm) (.slice o0_0 F0.pw.length c0_0) (by go_simp); have z4_0 : w.heap.size < w4.heap.size := World.block_lt_of_cell? w4 _ c4_0_0; have d4_0 : ¬ (w.heap.size = w4.heap.size) := (by omega); have e4_0 : ¬ (w4.heap.size = w.heap.size) := (by omega); have F1_4 := K.ints.ext (F1_3) x4; have F2_4 := K.own.ext (F2_3) x4; clear c3_0_0 c3_0_1 c3_0_2 c3_0_3 z3_0 d3_0 e3_0 F1_3 F2_3)
  go_wp2_with (go_at_call 12; refine K.call (by with_reducible rfl) (by with_reducible rfl) (impl_FormulaText F0 _ hm1 hn1 (K.own.ints (K.own.alloc F3_4 _)) (hL.ext (K.Ext.alloc X4 _))) ?_; rintro e w5 ⟨rfl, x5⟩; have s5 : w4.heap.size + 1 ≤ w5.heap.size := (by have h_ := x5.size; (try simp at h_); omega); have X5 := K.Ext.trans (K.Ext.alloc X4 _) x5; obtain ⟨c5_0_0, c5_0_1, c5_0_2, c5_0_3⟩ := K.c4 x5 (w.heap.size) (.int .i64 F0.dg) (.int .i64 F0.tn) (.string F0.nm) (.slice o0_0 F0.pw.length c0_0) (by go_simp); have z5_0 : w.heap.size < w5.heap.size := World.block_lt_of_cell? w5 _ c5_0_0; have d5_0 : ¬ (w.heap.size = w5.heap.size) := (by omega); have e5_0 : ¬ (w5.heap.size = w.heap.size) := (by omega); obtain ⟨c5_1_0, c5_1_1, c5_1_2, c5_1_3⟩ := K.c4 x5 (w4.heap.size) (.int .i64 F0.dg) (.int .i64 F0.tn) (.string F0.nm) (.slice o4 F0.pw.length k4) (by go_simp); have z5_1 : w4.heap.size < w5.heap.size := World.block_lt_of_cell? w5 _ c5_1_0; have d5_1 : ¬ (w4.heap.size = w5.heap.size) := (by omega); have e5_1 : ¬ (w5.heap.size = w4.heap.size) := (by omega); have n1_0 : ¬ (w4.heap.size = w.heap.size) := (by omega); have n0_1 : ¬ (w.heap.size = w4.heap.size) := (by omega); have F1_5 := K.ints.ext (K.ints.alloc F1_4 _) x5; have F2_5 := K.own.ext (K.own.alloc F2_4 _) x5; have F3_5 := K.own.ext (K.own.alloc F3_4 _) x5; clear c4_0_0 c4_0_1 c4_0_2 c4_0_3 z4_0 d4_0 e4_0 F1_4 F2_4 F3_4)
  go_wp2_with fail
  refine K.wp_region_x 5 [1, 1, 2, 2, 0] [K.SP.any, K.SP.any, (K.SP.fm F0), K.SP.is (.bool true)] (by kernel_rfl) (by kernel_rfl) ?_
  simp only [List.take_succ_cons, List.take_zero, List.drop_succ_cons, List.drop_zero]
  iterate 2
    apply K.x_held
    · rfl
    · rfl
    · intro w' hx; have hc := hx.all.1.1; have hf := hx.all.1.2; have hc' := hx.all.2.1; have hf' := hx.all.2.2; go_simp; first | done | rfl | exact ⟨rfl, rfl⟩
    simp only [Act.put, List.setIfInBounds_toArray, List.set]
  apply K.x_call
  · rfl
  · rfl
  · intro w'; go_simp; first | done | rfl | exact ⟨rfl, rfl⟩
  · intro w' hx hp; have hc := hx.all.1.1; have hf := hx.all.1.2; have hc' := hx.all.2.1; have hf' := hx.all.2.2; exact toFormula_sp F0 _ _ _ _ hm1 (K.ints.ext (K.ints.drew (F1_5)) hx)
  intro v2 w_2_ hx_2_ hv2
  obtain ⟨p_, lo_, hi_, rfl, hp_⟩ := hv2; have hp2_ := hp_; obtain ⟨ov_, cv_, rfl, _⟩ := hp2_
  simp only [Act.put, List.setIfInBounds_toArray, List.set]
  apply K.x_call_is
  · rfl
  · rfl
  · rfl
  · intro w'; go_simp; first | done | rfl | exact ⟨rfl, rfl⟩
  · intro w' hx hp; have hc := hx.all.1.1; have hf := hx.all.1.2; have hc' := hx.all.2.1; have hf' := hx.all.2.2; exact (by obtain ⟨lo_, hi_, hq_⟩ := K.SP.fm_at (hp 2 _ (by kernel_rfl) rfl rfl); exact eqFormula_same F0 _ _ _ _ _ _ _ hm1 (K.ints.ext (K.own.ints (K.own.drew (F3_5))) hx) hq_)
  intro w_3_ hx_3_
  simp only [Act.put, List.setIfInBounds_toArray, List.set]
  apply K.x_pure
  · rfl
  · rfl
  · intro w'; go_simp; first | done | exact K.vint (IntWalk.i64_in _ (by omega)) | rfl | exact ⟨rfl, rfl⟩
  simp only [Act.put, List.setIfInBounds_toArray, List.set]
  apply K.x_done
  intro w6 h_x
  have x6 := hx_2_.trans (hx_3_.trans h_x)
  have hxe2 := K.Ext.id (hx_3_.trans h_x)
  clear h_x hx_2_ hx_3_
  obtain ⟨⟨hcw6, hfw6⟩, hc'w6, hf'w6⟩ := x6.all
  have s6 : w5.heap.size ≤ w6.heap.size := (by have h_ := x6.size; (try simp at h_); omega)
  have X6 := K.Ext.trans (K.Ext.drew (X5)) x6
  obtain ⟨c6_0_0, c6_0_1, c6_0_2, c6_0_3⟩ := K.c4 x6 (w.heap.size) (.int .i64 F0.dg) (.int .i64 F0.tn) (.string F0.nm) (.slice o0_0 F0.pw.length c0_0) (by go_simp)
  have z6_0 : w.heap.size < w6.heap.size := World.block_lt_of_cell? w6 _ c6_0_0
  have d6_0 : ¬ (w.heap.size = w6.heap.size) := (by omega)
  have e6_0 : ¬ (w6.heap.size = w.heap.size) := (by omega)
  obtain ⟨c6_1_0, c6_1_1, c6_1_2, c6_1_3⟩ := K.c4 x6 (w4.heap.size) (.int .i64 F0.dg) (.int .i64 F0.tn) (.string F0.nm) (.slice o4 F0.pw.length k4) (by go_simp)
  have z6_1 : w4.heap.size < w6.heap.size := World.block_lt_of_cell? w6 _ c6_1_0
  have d6_1 : ¬ (w4.heap.size = w6.heap.size) := (by omega)
  have e6_1 : ¬ (w6.heap.size = w4.heap.size) := (by omega)
  have F1_6 := K.ints.ext (K.ints.drew (F1_5)) x6
  have F2_6 := K.own.ext (K.own.drew (F2_5)) x6
  have F3_6 := K.own.ext (K.own.drew (F3_5)) x6
  clear c5_0_0 c5_0_1 c5_0_2 c5_0_3 z5_0 d5_0 e5_0 c5_1_0 c5_1_1 c5_1_2 c5_1_3 z5_1 d5_1 e5_1 F1_5 F2_5 F3_5
  refine wpList_nil ?_
  refine NoPanic.normal ?_
  go_wp2_with fail
  go_ret
  exact ⟨rfl, X6⟩
end Go.Proofs.YtbloldnmlhhbhaaDoor
end
section
namespace Go.Proofs.YtbloldnmlhhbhaaDoor
open Go.ChangeShapes Go.WideShapes Go.ChangeAt Go.RowKit
namespace frameFnExactFormulaText
theorem own : ownKnob Tryd.prog.godebug = none := by kernel_rfl
theorem laidOut : laidOutB Tryd.prog = true := by kernel_rfl
theorem reads : ∀ t ∈ Tryd.f4.params.toList, Tryd.prog.readableRec t = true ∧ t < Tryd.prog.types.size := by
  rw [Tryd.params4]
  intro t ht
  simp only [List.mem_cons, List.not_mem_nil, or_false] at ht
  subst ht; exact ⟨by kernel_rfl, of_decide_eq_true (by kernel_rfl)⟩
theorem gTab : Tryd.prog.globalNamed "internal/strconv.uint64pow10" = some 3 := by kernel_rfl
theorem gTabType : (Tryd.prog.globals[3]?).map (·.type) = some 162 := by kernel_rfl
theorem cellsT : Tryd.prog.cellsOf 162 = 20 := by kernel_rfl
theorem cellsE : Tryd.prog.cellsOf 141 = 1 := by kernel_rfl
theorem laidList {W : World} (h : laidMetH Tryd.prog Rows.fnExactFormulaTextRow.laid W) : laidMet Tryd.prog Rows.fnExactFormulaTextRow.laid W := by
  rwa [MakeChecks.laidMetH_plain _ _ _ (by kernel_rfl)] at h
theorem table {W : World} (h : laidMetH Tryd.prog Rows.fnExactFormulaTextRow.laid W) : LTab W := by
  have h3 := (laidList h).tail.tail
  exact ⟨Lib.tabIs_of_head (k := .u64) (zs := Lib.pow10Tab) gTab gTabType Tryd.underlying162 Tryd.underlying141 cellsE cellsT h3⟩
theorem laid_met (os : Os) : laidMetH Tryd.prog Rows.fnExactFormulaTextRow.laid ((World.doorLaid Tryd.prog 72 os).forCall (fun _ _ => 0) ⟨#[], #[.agg #[.int .i64 0, .int .i64 0, .string ⟨#[]⟩, .slice none 0 0]], []⟩).memory :=
  laidMetH_of_parts3 (fuel := 8) (laidMet_of_run' 8 (by kernel_rfl) (by kernel_rfl)) (by kernel_rfl) (by kernel_rfl)
set_option maxRecDepth 100000 in
theorem lifted (os : Os) (started : os.Started) (H : Type) (enc : TypeId × Value → H) :
    ReturnsInHanded {} Tryd.checked os 4 .any (fun w args => (Rows.fnExactFormulaTextSpec.pre enc Tryd.prog Tryd.f4 Rows.fnExactFormulaTextRow.domain false w args ∧ laidMetH Tryd.prog Rows.fnExactFormulaTextRow.laid w) ∧ sizedMet enc Tryd.prog Tryd.f4 (OpenSpec.ofChange Rows.fnExactFormulaTextSpec) false w args) (Rows.fnExactFormulaTextSpec.post enc Tryd.prog Tryd.f4 false true false false) := by
  refine returnsInHanded_of_change_and (C := Tryd.checked) (X := fun w _ => laidMetH Tryd.prog Rows.fnExactFormulaTextRow.laid w) (fun _ _ _ hh h => h.of_heap hh) own started (by kernel_rfl) Tryd.func4
    (ChangeSpec.witness_shaped (enc := enc) (C := Tryd.checked) (os := os) (X := fun w _ => laidMetH Tryd.prog Rows.fnExactFormulaTextRow.laid w) false (World.doorLaid Tryd.prog 72 os) #[.agg #[.int .i64 0, .int .i64 0, .string ⟨#[]⟩, .slice none 0 0]] 8 rfl (World.shaped_of_RefB (by kernel_rfl) (by kernel_rfl)) (by kernel_rfl) (by kernel_rfl) (by kernel_rfl) (laid_met os)) ?_
  intro W base args ds gs before hval0 hW hcnd _ hL _
  have hval : ∀ (j : Nat) t v, Tryd.f4.params[j]? = some t → args[j]? = some v → Value.okWide Tryd.prog W .any base t v := hval0
  have hW' := hW
  obtain ⟨p, q, hA0, hV, rfl, hfz, hnd⟩ := hW
  have hA : DataW.TrodAll enc Tryd.prog W 0 (fun _ => true) true Tryd.f4.params.toList args.toList ds p := hA0
  rw [Tryd.params4] at hA hval
  obtain ⟨rfl, rfl⟩ := trodVars_none hV
  obtain ⟨v0, vs0, d0, ds0, p0, q0, hargs, rfl, rfl, h0, r0⟩ := trodAll_cons hA
  obtain ⟨rfl, rfl, rfl⟩ := trodAll_nil r0
  obtain rfl : args = #[v0] := by cases args; simp_all
  clear hA0 hval0
  obtain ⟨F0, y0, rfl, hx0, hn0, hl0⟩ := K.fm_arg Tryd.underlying38 Tryd.underlying36 Tryd.underlying2 Tryd.underlying2 Tryd.underlying9 Tryd.underlying26 Tryd.underlying2 (by kernel_rfl) ⟨by kernel_rfl, by kernel_rfl, by kernel_rfl, by kernel_rfl, by kernel_rfl, by kernel_rfl⟩ ⟨rfl, rfl, rfl, rfl, rfl⟩ (hval 0 38 v0 rfl rfl) h0
  refine Calls.mono (law_FnExactFormulaText F0 _ W hn0 hl0 hx0 (table hL)) fun e W' ⟨he, hg⟩ => ?_
  subst he
  exact ⟨_, rfl, K.law_post laidOut reads rfl Tryd.underlying4 rfl hW' rfl hg⟩
theorem over : Rows.FnExactFormulaTextSaid :=
  OpenClaim.holds_of_wide 4 Tryd.f4 rfl rfl rfl rfl rfl rfl rfl ⟨rfl, rfl, rfl, rfl, rfl⟩ rfl rfl rfl rfl rfl (by kernel_rfl) Tryd.func4 (by kernel_rfl)
    (of_decide_eq_true (by kernel_rfl)) (by unfold Func.isWrapper; first | (rw [if_pos (by decide +kernel)]; kernel_rfl) | (rw [if_neg (by decide +kernel)]; exact ⟨rfl, rfl⟩))
    (fun os started H enc _ => lifted os started H enc)
theorem plain (f : FuncId) (fn : Func) (hf : Tryd.pinned.checked.prog.funcNamed "loop.example/g00951/laws.FnExactFormulaText" = some f) (hfn : Tryd.pinned.checked.prog.funcs[f]? = some fn) :
    true = Tryd.pinned.checked.prog.looks [] ∧ ∀ (j : Nat) t, fn.params[j]? = some t → Tryd.pinned.checked.prog.wantsStandIn t = false := by
  obtain rfl : f = 4 := Option.some.inj ((show Tryd.prog.funcNamed "loop.example/g00951/laws.FnExactFormulaText" = some 4 by kernel_rfl).symm.trans hf) |>.symm
  obtain rfl : fn = Tryd.f4 := (Option.some.inj (Tryd.func4.symm.trans hfn)).symm
  refine ⟨by kernel_rfl, fun j t ht => ?_⟩
  rw [Tryd.params4] at ht
  have hm := Array.mem_of_getElem? ht
  simp only [List.mem_toArray, List.mem_cons, List.not_mem_nil, or_false] at hm
  subst hm
  exact (show Tryd.prog.wantsStandIn 38 = false by kernel_rfl)
/-- The given statement: the card. -/
theorem proved : Rows.FnExactFormulaTextCardSaid :=
  Claim7.holds_tied_plain_at .later [] _ _ _ _ over (fun _ h => by cases h) (by kernel_rfl) (fun _ h => by cases h) fnExactFormulaText_row_tie rfl ⟨rfl, rfl⟩ (by kernel_rfl) rfl plain (by kernel_rfl)
#print axioms proved
end frameFnExactFormulaText
end Go.Proofs.YtbloldnmlhhbhaaDoor
end
