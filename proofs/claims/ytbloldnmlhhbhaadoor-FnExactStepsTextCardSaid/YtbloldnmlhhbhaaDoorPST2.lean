/-
  For every input the law FnExactStepsText returns true, and its arguments read as before; the library's tables start as the program's text lays them (the card ties them).
-/
import Derived.Test.YtbloldnmlhhbhaaDoorPST1
import Derived.Shelf.LaysC
import Derived.Shelf.LaysM
import Derived.Shelf.Strconv.Itoa4
import Derived.Shelf.Strconv.ParseIntPublic10
import Derived.Shelf.Strings.Cut
import Derived.Shelf.Strings.OnBuilder
import Derived.Shelf.Strings.Prefix
import Derived.Shelf.Strings.Replace
import Derived.Shelf.Strings.Search3
import Derived.Shelf.Strings.Split
import Derived.Shelf.Strings.SplitShaped
import Derived.Lib.AppendIntMem
import Derived.OneCell
import Derived.Deep.DrawnRows
import Derived.LaidMore
import Derived.Lib.LaidTab
import Derived.MakeChecks
import Derived.SevenTiedAt
import Derived.Stop.Joined
import Derived.Stop.LaidErr
import Derived.Test.YtbloldnmlhhbhaaDoorCards
import Derived.Test.YtbloldnmlhhbhaaDoorRows
import Derived.Test.YtbloldnmlhhbhaaDoorTie
set_option linter.unusedVariables false
section
namespace Go.Proofs
open Go.Shelf
def Tryd.lays156_ren : Go.Shelf.Ren := ⟨fun | 156 => 66 | 165 => 94 | 166 => 95 | 169 => 96 | 240 => 109 | 241 => 110 | 276 => 123 | 277 => 124 | n => n, fun | 31 => 70 | 9 => 9 | 3 => 3 | 4 => 4 | 0 => 0 | 20 => 20 | 72 => 113 | 76 => 117 | 70 => 111 | 37 => 22 | 75 => 116 | 127 => 127 | 164 => 136 | 5 => 5 | 80 => 119 | n => n, fun | n => n⟩
theorem Tryd.lays156 : Go.Proofs.Lays.n156 Tryd.prog Tryd.lays156_ren := {
  mixed := by kernel_rfl
  f156 := Tryd.func66.trans (congrArg some (by kernel_rfl))
  f165 := Tryd.func94.trans (congrArg some (by kernel_rfl))
  f166 := Tryd.func95.trans (congrArg some (by kernel_rfl))
  f169 := Tryd.func96.trans (congrArg some (by kernel_rfl))
  f240 := Tryd.func109.trans (congrArg some (by kernel_rfl))
  f241 := Tryd.func110.trans (congrArg some (by kernel_rfl))
  f276 := Tryd.func123.trans (congrArg some (by kernel_rfl))
  f277 := Tryd.func124.trans (congrArg some (by kernel_rfl))
  t0 := Tryd.underlying0
  a0 := Tryd.isAgg0
  z0 := Tryd.sizeOf0
  v0 := Tryd.zeroValue0
  t3 := Tryd.underlying3
  a3 := Tryd.isAgg3
  z3 := Tryd.sizeOf3
  v3 := Tryd.zeroValue3
  t4 := Tryd.underlying4
  a4 := Tryd.isAgg4
  z4 := Tryd.sizeOf4
  v4 := Tryd.zeroValue4
  t9 := Tryd.underlying9
  a9 := Tryd.isAgg9
  z9 := Tryd.sizeOf9
  v9 := Tryd.zeroValue9
  t20 := Tryd.underlying20
  a20 := Tryd.isAgg20
  z20 := Tryd.sizeOf20
  v20 := Tryd.zeroValue20
  t31 := Tryd.underlying70
  a31 := Tryd.isAgg70
  z31 := Tryd.sizeOf70
  v31 := Tryd.zeroValue70
  t37 := Tryd.underlying22
  a37 := Tryd.isAgg22
  z37 := Tryd.sizeOf22
  v37 := Tryd.zeroValue22
  t70 := Tryd.underlying111
  a70 := Tryd.isAgg111
  z70 := Tryd.sizeOf111
  v70 := Tryd.zeroValue111
  t72 := Tryd.underlying113
  a72 := Tryd.isAgg113
  z72 := Tryd.sizeOf113
  v72 := Tryd.zeroValue113
  t75 := Tryd.underlying116
  a75 := Tryd.isAgg116
  z75 := Tryd.sizeOf116
  v75 := Tryd.zeroValue116
  t76 := Tryd.underlying117
  a76 := Tryd.isAgg117
  z76 := Tryd.sizeOf117
  v76 := Tryd.zeroValue117
  t127 := Tryd.underlying127
  a127 := Tryd.isAgg127
  z127 := Tryd.sizeOf127
  v127 := Tryd.zeroValue127
  t164 := Tryd.underlying136
  a164 := Tryd.isAgg136
  z164 := Tryd.sizeOf136
  v164 := Tryd.zeroValue136 }
theorem Tryd.Builder_Extra_156 : Builder.Extra Tryd.prog Tryd.lays156_ren := {
  sizeBuilder := by kernel_rfl
  liesBuilder := by kernel_rfl
  t5 := Tryd.underlying5
  a5 := Tryd.isAgg5
  z5 := Tryd.sizeOf5
  v5 := Tryd.zeroValue5
  infoByte := by kernel_rfl
  cellsByte := by kernel_rfl
  sizeByte := by kernel_rfl
  neB5 := by decide }
open Go.RowKit in
/-- No element: the empty string; the world is as it was. (Whatever the slice's address and capacity: a nil slice too.) (LAID: no walk: one application.) -/
theorem Tryd.strings_Join_none (a : Option Addr) (c : Nat) (sep : ByteArray) (w : World) :
    Calls Tryd.prog 66 #[.slice a 0 c, .string sep] w fun e w' => e = .returned (.string ⟨#[]⟩) ∧ w' = w := Any.strings_Join_none Tryd.lays156 Tryd.Builder_Extra_156 a c sep w
open Go.RowKit in
/-- strings.Join: "Join concatenates the elements of its first argument to create a single string. The separator string sep is placed between elements in the resulting string.": HOWEVER MANY ELEMENTS. Below the heap's end the world is as it was. (LAID: no walk: one application.) -/
theorem Tryd.strings_Join (bk o c : Nat) (xs : List ByteArray) (sep : ByteArray) (w : World) (hcells : ∀ (j : Nat) x, xs[j]? = some x → w.cell? ⟨bk, o + j, none⟩ = some (.string x)) (hbk : bk < w.heap.size) (hN : xs.length ≤ 140737488355328) (hcap : xs.length ≤ c) (hlen : (Lib.join (xs.map (·.data.toList)) sep.data.toList).length ≤ 140737488355328) :
    Calls Tryd.prog 66 #[.slice (some ⟨bk, o, none⟩) xs.length c, .string sep] w fun e w' => e = .returned (.string ⟨(Lib.join (xs.map (·.data.toList)) sep.data.toList).toArray⟩) ∧ Below w.heap.size w w' := Any.strings_Join Tryd.lays156 Tryd.Builder_Extra_156 bk o c xs sep w hcells hbk hN hcap hlen
def Tryd.laysM173_ren : Go.Shelf.Ren := ⟨fun | 173 => 102 | 246 => 120 | 283 => 134 | 284 => 135 | 285 => 136 | 286 => 137 | 129 => 145 | 317 => 144 | 318 => 146 | 319 => 147 | 320 => 148 | 337 => 150 | 338 => 151 | n => n, fun | 2 => 2 | 3 => 3 | 9 => 9 | 4 => 4 | 171 => 151 | 0 => 0 | 53 => 141 | 37 => 22 | 5 => 5 | 173 => 154 | 212 => 162 | 51 => 147 | 20 => 20 | 213 => 163 | 46 => 132 | 232 => 174 | 233 => 175 | n => n, fun | 17 => 3 | 18 => 6 | 19 => 7 | n => n⟩
theorem Tryd.laysM173 : Go.Proofs.LaysM.n173 Tryd.prog Tryd.laysM173_ren := {
  mixed := by kernel_rfl
  f129 := Tryd.func145.trans (congrArg some (by kernel_rfl))
  f173 := Tryd.func102.trans (congrArg some (by kernel_rfl))
  f246 := Tryd.func120.trans (congrArg some (by kernel_rfl))
  f283 := Tryd.func134.trans (congrArg some (by kernel_rfl))
  f284 := Tryd.func135.trans (congrArg some (by kernel_rfl))
  f285 := Tryd.func136.trans (congrArg some (by kernel_rfl))
  f286 := Tryd.func137.trans (congrArg some (by kernel_rfl))
  f317 := Tryd.func144.trans (congrArg some (by kernel_rfl))
  f318 := Tryd.func146.trans (congrArg some (by kernel_rfl))
  f319 := Tryd.func147.trans (congrArg some (by kernel_rfl))
  f320 := Tryd.func148.trans (congrArg some (by kernel_rfl))
  f337 := Tryd.func150.trans (congrArg some (by kernel_rfl))
  f338 := Tryd.func151.trans (congrArg some (by kernel_rfl))
  t0 := Tryd.underlying0
  a0 := Tryd.isAgg0
  z0 := Tryd.sizeOf0
  v0 := Tryd.zeroValue0
  t2 := Tryd.underlying2
  a2 := Tryd.isAgg2
  z2 := Tryd.sizeOf2
  v2 := Tryd.zeroValue2
  t3 := Tryd.underlying3
  a3 := Tryd.isAgg3
  z3 := Tryd.sizeOf3
  v3 := Tryd.zeroValue3
  t4 := Tryd.underlying4
  a4 := Tryd.isAgg4
  z4 := Tryd.sizeOf4
  v4 := Tryd.zeroValue4
  t5 := Tryd.underlying5
  a5 := Tryd.isAgg5
  z5 := Tryd.sizeOf5
  v5 := Tryd.zeroValue5
  t9 := Tryd.underlying9
  a9 := Tryd.isAgg9
  z9 := Tryd.sizeOf9
  v9 := Tryd.zeroValue9
  t20 := Tryd.underlying20
  a20 := Tryd.isAgg20
  z20 := Tryd.sizeOf20
  v20 := Tryd.zeroValue20
  t37 := Tryd.underlying22
  a37 := Tryd.isAgg22
  z37 := Tryd.sizeOf22
  v37 := Tryd.zeroValue22
  t46 := Tryd.underlying132
  a46 := Tryd.isAgg132
  z46 := Tryd.sizeOf132
  v46 := Tryd.zeroValue132
  t51 := Tryd.underlying147
  a51 := Tryd.isAgg147
  z51 := Tryd.sizeOf147
  v51 := Tryd.zeroValue147
  t53 := Tryd.underlying141
  a53 := Tryd.isAgg141
  z53 := Tryd.sizeOf141
  v53 := Tryd.zeroValue141
  t171 := Tryd.underlying151
  a171 := Tryd.isAgg151
  z171 := Tryd.sizeOf151
  v171 := Tryd.zeroValue151
  t173 := Tryd.underlying154
  a173 := Tryd.isAgg154
  z173 := Tryd.sizeOf154
  v173 := Tryd.zeroValue154
  t212 := Tryd.underlying162
  a212 := Tryd.isAgg162
  z212 := Tryd.sizeOf162
  v212 := Tryd.zeroValue162
  t213 := Tryd.underlying163
  a213 := Tryd.isAgg163
  z213 := Tryd.sizeOf163
  t232 := Tryd.underlying174
  a232 := Tryd.isAgg174
  z232 := Tryd.sizeOf174
  v232 := Tryd.zeroValue174
  t233 := Tryd.underlying175
  a233 := Tryd.isAgg175
  z233 := Tryd.sizeOf175
  v233 := Tryd.zeroValue175
  g17 := by kernel_rfl
  g18 := by kernel_rfl
  g19 := by kernel_rfl
  i0 := by kernel_rfl
  i2 := by kernel_rfl
  i3 := by kernel_rfl
  i4 := by kernel_rfl
  i5 := by kernel_rfl
  i9 := by kernel_rfl
  i20 := by kernel_rfl
  i37 := by kernel_rfl
  i46 := by kernel_rfl
  i51 := by kernel_rfl
  i53 := by kernel_rfl
  i171 := by kernel_rfl
  i173 := by kernel_rfl
  i212 := by kernel_rfl
  i232 := by kernel_rfl
  i233 := by kernel_rfl
  m17 := by kernel_rfl
  m18 := by kernel_rfl
  m19 := by kernel_rfl }
open Go.RowKit Go.Sort Go.Lib in
/-- strconv.FormatInt: "FormatInt returns the string representation of i in the given base": AT BASE 10: i's decimal numeral, for every int64. (LAID: no walk: one application.) -/
theorem Tryd.strconv_FormatInt_10 (n : Int) (h0 : -9223372036854775808 ≤ n) (h1 : n ≤ 9223372036854775807) (w : World) (htab : Lib.TabIs Tryd.prog w "internal/strconv.uint64pow10" .u64 Lib.pow10Tab) :
    Calls Tryd.prog 102 #[.int .i64 n, .int .i64 10] w fun e w' => e = .returned (.string ⟨(Lib.itoa n).toArray⟩) ∧ ∃ k os, w' = grow (w.drewN k) os := Any.strconv_FormatInt_10 Tryd.laysM173 n h0 h1 w htab
end Go.Proofs
end
section
namespace Go.K
open Go.RowKit
theorem var_ext {P : Program} {w w' : World} {n : String} {cs : Array Value} (h : w.var? P n = some cs) (e : Ext w w') : w'.var? P n = some cs := by
  unfold World.var? at h ⊢
  cases hg : P.globalNamed n with
  | none => rw [hg] at h; cases h
  | some g =>
    rw [hg] at h
    simp only [Option.bind_some] at h ⊢
    cases ho : w.heap[g]? with
    | none => rw [ho] at h; cases h
    | some o =>
      rw [e.block ho]
      rw [ho] at h
      exact h
/-- the table of the powers of ten -/
structure TabV (P : Program) (w : World) : Prop where
  tab : Lib.TabIs P w "internal/strconv.uint64pow10" .u64 Lib.pow10Tab
theorem TabV.ext {P : Program} {w w' : World} (h : TabV P w) (e : Ext w w') : TabV P w' := ⟨var_ext h.tab e⟩
/-- what the library's functions ask of its variables -/
structure LibV (P : Program) (gM gS gR : Nat) (w : World) : Prop where
  tab : Lib.TabIs P w "internal/strconv.uint64pow10" .u64 Lib.pow10Tab
  maxl : ∃ m, w.cell? ⟨gM, 0, none⟩ = some (.int .i64 m)
  syn : ∃ ev, w.cell? ⟨gS, 0, none⟩ = some ev ∧ (ev = .nilIface ∨ ∃ te pe, ev = .iface te pe)
  rng : ∃ ev, w.cell? ⟨gR, 0, none⟩ = some ev ∧ (ev = .nilIface ∨ ∃ te pe, ev = .iface te pe)
theorem LibV.ext {P : Program} {gM gS gR : Nat} {w w' : World} (h : LibV P gM gS gR w) (e : Ext w w') : LibV P gM gS gR w' :=
  ⟨var_ext h.tab e, let ⟨m, hm⟩ := h.maxl; ⟨m, e.cell_of hm⟩, let ⟨v, hv, hh⟩ := h.syn; ⟨v, e.cell_of hv, hh⟩, let ⟨v, hv, hh⟩ := h.rng; ⟨v, e.cell_of hv, hh⟩⟩
theorem LibV.t {P : Program} {gM gS gR : Nat} {w : World} (h : LibV P gM gS gR w) : TabV P w := ⟨h.tab⟩
end Go.K
namespace Go.Proofs.YtbloldnmlhhbhaaDoor
open Go.RowKit
/-- .. at this program -/
abbrev LTab (w : World) : Prop := K.TabV Tryd.prog w
theorem decimal_any (n : Int) (w : World) (h0 : -9223372036854775808 ≤ n) (h1 : n ≤ 9223372036854775807) (hL : LTab w) :
    Calls Tryd.prog 80 #[.int .i64 n] w fun e w' => e = .returned (.string (Z.dec n)) ∧ K.Ext w w' := by
  go_enter Tryd.func80, Tryd.ntmps80
  go_wp2_with fail
  refine K.call (by with_reducible rfl) (by with_reducible rfl) (Tryd.strconv_FormatInt_10 n h0 h1 w hL.tab) ?_
  rintro e w1 ⟨rfl, k, os, rfl⟩
  go_wp2_with fail
  go_ret
  exact ⟨rfl, Lib.below_grow _ _ (Nat.le_refl _) _ _⟩
set_option maxRecDepth 100000 in
set_option maxHeartbeats 6400000 in
theorem l01Dec_any (u : Nat) : ∀ (w : World) (hu : u < 1000000000000000000),
    Calls Tryd.prog 103 #[.int .i64 (u : Int)] w fun e w' => e = .returned (.string (Z.str (Lib.decDigits u))) ∧ K.Ext w w' := by
  induction u using Nat.strongRecOn with
  | _ u ih =>
    intro w hu
    have hm : (u % 10 : Nat) < 10 := Nat.mod_lt _ (by decide)
    by_cases h : u < 10
    · have h10 : (u : Int) < 10 := by omega
      have q1 : IntKind.i64.wrap (48 + (u : Int)) = 48 + (u : Int) := IntWalk.i64_in _ (by omega)
      have q2 : IntKind.u8.wrap (48 + (u : Int)) = 48 + (u : Int) := IntWalk.u8_in _ (by omega)
      have hcv := K.byte_str (P := Tryd.prog) (w := w.alloc (.cells #[.int .u8 (48 + (u : Int))] 5)) (src := 22) (dst := 9) (c := 48 + (u : Int)) Tryd.underlying22 Tryd.underlying5 Tryd.underlying9 (by omega) (by omega) (K.block_new rfl)
      go_enter Tryd.func103, Tryd.ntmps103
      go_wp2
      go_ret
      refine ⟨?_, (K.Ext.refl _).alloc _⟩
      rw [Lib.decDigits_one h]
      rfl
    · have h10 : ¬ (u : Int) < 10 := by omega
      have q0 : (u : Int).tdiv 10 = ((u / 10 : Nat) : Int) := by rw [Int.tdiv_eq_ediv_of_nonneg (by omega)]; omega
      have q0' : (u : Int).tmod 10 = ((u % 10 : Nat) : Int) := by rw [Int.tmod_eq_emod_of_nonneg (by omega)]; omega
      obtain ⟨d, hd⟩ : ∃ d : Int, d = ((u / 10 : Nat) : Int) := ⟨_, rfl⟩
      obtain ⟨r, hr⟩ : ∃ r : Int, r = 48 + ((u % 10 : Nat) : Int) := ⟨_, rfl⟩
      have r0 : 0 ≤ r := by omega
      have r1 : r ≤ 255 := by omega
      have hdec : Lib.decDigits u = Lib.decDigits (u / 10) ++ [UInt8.ofNat r.toNat] := by
        rw [Lib.decDigits, dif_neg h, show r.toNat = 48 + u % 10 by omega]
      have hs : (Z.str (Lib.decDigits (u / 10))).size ≤ 18 := by rw [Z.str_size]; exact Z.decDigits_le (k := 17) (by omega)
      have IH : ∀ w', Calls Tryd.prog 103 #[.int .i64 d] w' fun e w'' => e = .returned (.string (Z.str (Lib.decDigits (u / 10)))) ∧ K.Ext w' w'' := fun w' => by rw [hd]; exact ih (u / 10) (by omega) w' (by omega)
      have hres : Z.str (Lib.decDigits (u / 10)) ++ ⟨#[UInt8.ofNat r.toNat]⟩ = Z.str (Lib.decDigits u) := by rw [hdec, ← Z.str_append]; rfl
      have q1 : IntKind.i64.wrap ((u : Int).tdiv 10) = d := by rw [q0, ← hd]; exact IntWalk.i64_in _ (by omega)
      have q2 : IntKind.i64.wrap (48 + (u : Int).tmod 10) = r := by rw [q0', ← hr]; exact IntWalk.i64_in _ (by omega)
      have q3 : IntKind.u8.wrap r = r := IntWalk.u8_in _ (by omega)
      obtain ⟨S, hS⟩ : ∃ S, S = Z.str (Lib.decDigits (u / 10)) := ⟨_, rfl⟩
      rw [← hS] at hs hres
      have IH' : ∀ w', Calls Tryd.prog 103 #[.int .i64 d] w' fun e w'' => e = .returned (.string S) ∧ K.Ext w' w'' := fun w' => by rw [hS]; exact IH w'
      have hov : ¬ (9223372036854775807 < S.size + 1) := by omega
      obtain ⟨U, hU⟩ : ∃ U : Int, U = (u : Int) := ⟨_, rfl⟩
      rw [← hU] at q1 q2 h10 ⊢
      clear hd hr IH q0 q0' hS hdec hU
      go_enter Tryd.func103, Tryd.ntmps103
      go_wp2_with fail
      refine K.wp_region_x 10 [0, 0, 2, 0, 0, 0, 0, 2, 2, 0] [K.SP.any, K.SP.any, K.SP.is (.string S), K.SP.any, K.SP.any, K.SP.any, K.SP.any, K.SP.sl (w.heap.size) (.cells #[.int .u8 r] 5), K.SP.is (.string ⟨#[UInt8.ofNat r.toNat]⟩)] (by kernel_rfl) (by kernel_rfl) ?_
      simp only [List.take_succ_cons, List.take_zero, List.drop_succ_cons, List.drop_zero]
      iterate 2
        apply K.x_pure
        · rfl
        · rfl
        · intro w'; go_simp; first | done | exact K.vint (IntWalk.i64_in _ (by omega)) | rfl | exact ⟨rfl, rfl⟩
        simp only [Act.put, List.setIfInBounds_toArray, List.set]
      apply K.x_call_is
      · rfl
      · rfl
      · rfl
      · intro w'; go_simp; first | done | rfl | exact ⟨rfl, rfl⟩
      · intro w' hx hp; have hc := hx.all.1.1; have hf := hx.all.1.2; have hc' := hx.all.2.1; have hf' := hx.all.2.2; exact IH' _
      intro w_2_ hx_2_
      simp only [Act.put, List.setIfInBounds_toArray, List.set]
      iterate 4
        apply K.x_pure
        · rfl
        · rfl
        · intro w'; go_simp; first | done | exact K.vint (IntWalk.i64_in _ (by omega)) | rfl | exact ⟨rfl, rfl⟩
        simp only [Act.put, List.setIfInBounds_toArray, List.set]
      apply K.x_newsl
      · rfl
      · rfl
      · rfl
      · go_simp; first | done | omega
      · intro w'; go_simp; first | done | rfl | exact ⟨rfl, rfl⟩
      intro g3_7 w_7_ hx_7_ hg3_7 hb_7_
      simp only [Act.put, List.setIfInBounds_toArray, List.set]
      apply K.x_op_is
      · rfl
      · rfl
      · rfl
      · intro w' hx hp; have hc := hx.all.1.1; have hf := hx.all.1.2; have hc' := hx.all.2.1; have hf' := hx.all.2.2; have hq_ := K.byte_str (P := Tryd.prog) (src := 22) (dst := 9) Tryd.underlying22 Tryd.underlying5 Tryd.underlying9 r0 r1 (K.SP.sl_at (hp 7 _ (by kernel_rfl) rfl rfl)); go_simp; first | done | rfl
      intro w_8_ hx_8_
      simp only [Act.put, List.setIfInBounds_toArray, List.set]
      apply K.x_pure
      · rfl
      · rfl
      · intro w'; go_simp; first | done | exact K.vint (IntWalk.i64_in _ (by omega)) | rfl | exact ⟨rfl, rfl⟩
      simp only [Act.put, List.setIfInBounds_toArray, List.set]
      apply K.x_done
      intro w2 h_x
      have hx2 := hx_2_.trans (hx_7_.trans (hx_8_.trans h_x))
      have hb3_7 := K.Ext.block (hx_8_.trans h_x) hb_7_
      have cg3_7_0 : w2.cell? ⟨g3_7, 0, none⟩ = some (.int .u8 r) := K.cell_at hb3_7 rfl
      have fg3_7_0 : w2.frozen? ⟨g3_7, 0, none⟩ = false := K.thaw_at hb3_7
      clear h_x hx_2_ hx_7_ hx_8_
      obtain ⟨⟨hcw2, hfw2⟩, hc'w2, hf'w2⟩ := hx2.all
      go_wp2_with fail
      refine NoPanic.normal ?_
      go_wp2
      go_ret
      exact ⟨by rw [← hres]; rfl, (by repeat' (first | with_reducible exact K.Ext.refl _ | with_reducible assumption | with_reducible refine K.Ext.drew ?_ | with_reducible refine K.Ext.alloc ?_ _ | with_reducible refine K.Ext.setCell ?_ ?_ _ | with_reducible refine K.Ext.trans ?_ (by with_reducible assumption) | (dsimp only; omega) | omega | exact K.Ext.refl _ | assumption | apply K.Ext.drew | refine K.Ext.alloc ?_ _ | refine K.Ext.setCell ?_ ?_ _ | (simp; done) | (simp; omega) | refine K.Ext.trans ?_ (by assumption)))⟩
set_option maxRecDepth 100000 in
theorem l01Number_any (n : Int) (w : World) (h0 : -1000000000000000000 < n) (h1 : n < 1000000000000000000) :
    Calls Tryd.prog 84 #[.int .i64 n] w fun e w' => e = .returned (.string (Z.dec n)) ∧ K.Ext w w' := by
  rcases Z.int_cases n with ⟨u, rfl⟩ | ⟨u, hu, rfl⟩
  · have hn : ¬ (u : Int) < 0 := by omega
    have he : Z.dec (u : Int) = Z.str (Lib.decDigits u) := by unfold Z.dec; rw [Z.itoa_nat]
    have IH := l01Dec_any u
    rw [← he] at IH
    obtain ⟨S, hS⟩ : ∃ S, S = Z.dec (u : Int) := ⟨_, rfl⟩
    rw [← hS] at IH ⊢
    obtain ⟨U, hU⟩ : ∃ U : Int, U = (u : Int) := ⟨_, rfl⟩
    rw [← hU] at IH hn ⊢
    have hb : u < 1000000000000000000 := by omega
    clear he hS hU
    go_enter Tryd.func84, Tryd.ntmps84
    go_wp2_with fail
    refine K.call (by with_reducible rfl) (by with_reducible rfl) (IH _ hb) ?_
    rintro e w1 ⟨rfl, f1⟩
    go_wp2
    go_ret
    exact ⟨rfl, f1⟩
  · have hn : -(u : Int) < 0 := by omega
    have he : Z.dec (-(u : Int)) = ⟨#[45]⟩ ++ Z.str (Lib.decDigits u) := by
      unfold Z.dec; rw [Z.itoa_neg hu]
      exact (Z.str_append [45] _).symm
    have IH := l01Dec_any u
    have hsz : (Z.str (Lib.decDigits u)).size ≤ 18 := by rw [Z.str_size]; exact Z.decDigits_le (k := 17) (by omega)
    obtain ⟨S, hS⟩ : ∃ S, S = Z.str (Lib.decDigits u) := ⟨_, rfl⟩
    rw [← hS] at IH hsz he
    rw [he]
    obtain ⟨U, hU⟩ : ∃ U : Int, U = -(u : Int) := ⟨_, rfl⟩
    obtain ⟨V, hV⟩ : ∃ V : Int, V = (u : Int) := ⟨_, rfl⟩
    rw [← hV] at IH
    rw [← hU] at hn ⊢
    have q1 : IntKind.i64.wrap (-U) = V := by rw [hU, hV, Int.neg_neg]; exact IntWalk.i64_in _ (by omega)
    have hov : ¬ (9223372036854775807 < 1 + S.size) := by omega
    have hb : u < 1000000000000000000 := by omega
    clear he hS hU hV
    go_enter Tryd.func84, Tryd.ntmps84
    go_wp2_with fail
    refine K.call (by with_reducible rfl) (by with_reducible rfl) (IH _ hb) ?_
    rintro e w1 ⟨rfl, f1⟩
    go_wp2
    go_ret
    exact ⟨rfl, f1⟩
end Go.Proofs.YtbloldnmlhhbhaaDoor
end
section
namespace Go.Z
/-- how far the splitting has come -/
structure SplitI (c : UInt8) (l : List UInt8) (i m : Nat) (done : List (List UInt8)) : Prop where
  run : i ≤ l.length → splitC c l = done ++ splitC c (l.drop m) ∧ c ∉ (l.take i).drop m
  fin : l.length < i → done = splitC c l
theorem SplitI.start (c : UInt8) (l : List UInt8) : SplitI c l 0 0 [] := ⟨fun _ => ⟨rfl, by simp⟩, fun h => absurd h (by omega)⟩
end Go.Z
namespace Go.Proofs.YtbloldnmlhhbhaaDoor
open Go.RowKit
theorem info_str : (Tryd.prog.info? 9).map (fun i => (i.zero, i.size, i.bytes)) = some (some (.string ByteArray.empty), 1, 16) := by kernel_rfl
/-- a row of strings -/
def strVals (ls : List (List UInt8)) : List Value := ls.map fun p => Value.string (Z.str p)
end Go.Proofs.YtbloldnmlhhbhaaDoor
end
section
namespace Go.Proofs.YtbloldnmlhhbhaaDoor
open Go.RowKit
theorem strVals_snoc (ps : List (List UInt8)) (p : List UInt8) : strVals (ps ++ [p]) = strVals ps ++ [Value.string (Z.str p)] := by simp [strVals]
theorem join_any (ps : List (List UInt8)) (c : UInt8) {base : Nat} {v : Value} (w : World) (hps : ps ≠ []) (hlen : (Z.joinB c ps).length ≤ 1048576) (hn : ps.length ≤ 1048576) (h : w.ownsRow base 9 1 v ps.length (strVals ps)) :
    Calls Tryd.prog 66 #[v, .string ⟨#[c]⟩] w fun e w' => e = .returned (.string (Z.str (Z.joinB c ps))) ∧ K.Ext w w' := by
  rcases h.2 with ⟨_, h0⟩ | ⟨g, cap, cur, rfl, hb, hg, hnc, _⟩
  · exact absurd (List.eq_nil_of_length_eq_zero h0) hps
  have hm : (ps.map Z.str).map (·.data.toList) = ps := by rw [List.map_map]; conv => rhs; rw [← List.map_id ps]
                                                          exact List.map_congr_left fun p _ => Z.str_bytes p
  have hj := Z.intercalate_join c ps
  have HC := Tryd.strings_Join g 0 cap (ps.map Z.str) ⟨#[c]⟩ w (fun j x hx => by
    have hj : j < ps.length := by have := (List.getElem?_eq_some_iff.1 hx).1; simpa using this
    have := h.cellAt j (by omega)
    rw [Nat.zero_add, this]
    rw [List.getElem?_map] at hx
    simp only [strVals]
    obtain ⟨q, hq, rfl⟩ := Option.map_eq_some_iff.1 hx
    rw [List.getElem?_map, hq]; rfl) (Array.getElem?_eq_some_iff.1 hg).1 (by simp; omega) (by simp; omega) (by rw [hm]; show (Lib.join ps [c]).length ≤ _; rw [hj]; omega)
  rw [List.length_map, hm] at HC
  refine HC.mono fun e w' ⟨he, hw⟩ => ⟨?_, hw⟩
  rw [he]
  show Ending.returned (.string ⟨(Lib.join ps [c]).toArray⟩) = _
  rw [hj]; rfl
end Go.Proofs.YtbloldnmlhhbhaaDoor
end
section
namespace Go.Proofs.YtbloldnmlhhbhaaDoor
open Go.RowKit
set_option maxHeartbeats 3200000 in
theorem stepText_0 (ms ts : Int)  (w : World)   :
    Calls Tryd.prog 65 #[.agg #[.int .i64 0, .int .u8 ms, .int .i64 ts]] w fun e w' => e = .returned (.string (Z.str (Z.stepText ⟨0, ms, ts⟩))) ∧ K.Ext w w' := by
  have HE : Hid (Z.str (Z.stepText ⟨0, ms, ts⟩) = ⟨#[119]⟩) := Z.hide (Z.stepText_0 ms ts)
  have X0 : K.Ext w w := K.Ext.refl w
  go_enter Tryd.func65, Tryd.ntmps65
  go_wp2_with fail
  rw [HE.out]
  refine bodyPost_ret (v := .string ⟨#[119]⟩) (by unfold results; rw [Tryd.results65]; go_simp) rfl ⟨rfl, ?_⟩
  repeat with_reducible refine K.Ext.setCell ?_ (by dsimp only; omega) _
  exact (by repeat' (first | with_reducible exact X0 | with_reducible refine K.Ext.setCell ?_ ?_ _ | with_reducible refine K.Ext.alloc ?_ _ | with_reducible refine K.Ext.drew ?_ | (dsimp only; omega) | omega | (simp; omega)))
set_option maxHeartbeats 3200000 in
theorem stepText_2 (ms ts : Int)  (w : World) (h1 : -6 ≤ ts) (h2 : ts ≤ 6) (hL : LTab w)  :
    Calls Tryd.prog 65 #[.agg #[.int .i64 2, .int .u8 ms, .int .i64 ts]] w fun e w' => e = .returned (.string (Z.str (Z.stepText ⟨2, ms, ts⟩))) ∧ K.Ext w w' := by
  have HE := Z.hide (Z.stepText_2 ms ts)
  have HD : ∀ w', K.Ext w w' → Calls Tryd.prog 80 #[.int .i64 ts] w' fun e w'' => e = .returned (.string (Z.dec ts)) ∧ K.Ext w' w'' := fun w' hx => decimal_any _ w' (by omega) (by omega) (hL.ext hx)
  have hds := (Z.dec_size (n := ts) (by omega) (by omega)).2
  generalize Z.dec ts = D at *
  have o1 : ¬ (9223372036854775807 < 1 + D.size) := by omega
  clear hL
  have X0 : K.Ext w w := K.Ext.refl w
  go_enter Tryd.func65, Tryd.ntmps65
  go_wp2_with (go_at_call 80; refine K.call (by with_reducible rfl) (by with_reducible rfl) (HD _ ((by repeat' (first | with_reducible exact K.Ext.refl _ | with_reducible assumption | with_reducible refine K.Ext.drew ?_ | with_reducible refine K.Ext.alloc ?_ _ | with_reducible refine K.Ext.setCell ?_ ?_ _ | with_reducible refine K.Ext.trans ?_ (by with_reducible assumption) | (dsimp only; omega) | omega | exact K.Ext.refl _ | assumption | apply K.Ext.drew | refine K.Ext.alloc ?_ _ | refine K.Ext.setCell ?_ ?_ _ | (simp; done) | (simp; omega) | refine K.Ext.trans ?_ (by assumption))))) ?_; rintro e w1 ⟨rfl, x1⟩; have s1 : w.heap.size + 1 ≤ w1.heap.size := (by have h_ := x1.size; (try simp at h_); omega); have X1 := K.Ext.trans (K.Ext.alloc X0 _) x1; obtain ⟨c1_0_0, c1_0_1, c1_0_2⟩ := K.c3 x1 (w.heap.size) (.int .i64 2) (.int .u8 ms) (.int .i64 ts) (by go_simp); have z1_0 : w.heap.size < w1.heap.size := World.block_lt_of_cell? w1 _ c1_0_0; have d1_0 : ¬ (w.heap.size = w1.heap.size) := (by omega); have e1_0 : ¬ (w1.heap.size = w.heap.size) := (by omega))
  rw [HE.out]
  refine bodyPost_ret (v := .string ((⟨#[114]⟩) ++ D)) (by unfold results; rw [Tryd.results65]; go_simp) rfl ⟨rfl, ?_⟩
  repeat with_reducible refine K.Ext.setCell ?_ (by dsimp only; omega) _
  exact (by repeat' (first | with_reducible exact X1 | with_reducible refine K.Ext.setCell ?_ ?_ _ | with_reducible refine K.Ext.alloc ?_ _ | with_reducible refine K.Ext.drew ?_ | (dsimp only; omega) | omega | (simp; omega)))
set_option maxHeartbeats 6400000 in
theorem stepText_1 (ms ts : Int)  (w : World) (hb : 0 ≤ ms ∧ ms ≤ 255) (h1 : -6 ≤ ts) (h2 : ts ≤ 6) (hL : LTab w)  :
    Calls Tryd.prog 65 #[.agg #[.int .i64 1, .int .u8 ms, .int .i64 ts]] w fun e w' => e = .returned (.string (Z.str (Z.stepText ⟨1, ms, ts⟩))) ∧ K.Ext w w' := by
  have HE := Z.hide (Z.stepText_1 ms ts)
  have HD : ∀ w', K.Ext w w' → Calls Tryd.prog 80 #[.int .i64 ts] w' fun e w'' => e = .returned (.string (Z.dec ts)) ∧ K.Ext w' w'' := fun w' hx => decimal_any _ w' (by omega) (by omega) (hL.ext hx)
  have hds := (Z.dec_size (n := ts) (by omega) (by omega)).2
  generalize Z.dec ts = D at *
  have o1 : ¬ (9223372036854775807 < 2 + D.size) := by omega
  have o2 : ¬ (9223372036854775807 < 1 + 1 + D.size) := by omega
  clear hL
  have X0 : K.Ext w w := K.Ext.refl w
  go_enter Tryd.func65, Tryd.ntmps65
  go_wp2_with fail
  refine K.wp_region_x 9 [0, 1, 2, 2, 0, 0, 1, 2, 0] [K.SP.any, K.SP.any, K.SP.sl (w.heap.size + 1) (.cells #[.int .u8 ms] 5), K.SP.is (.string ⟨#[UInt8.ofNat ms.toNat]⟩), K.SP.any, K.SP.any, K.SP.any, K.SP.is (.string D)] (by kernel_rfl) (by kernel_rfl) ?_
  simp only [List.take_succ_cons, List.take_zero, List.drop_succ_cons, List.drop_zero]
  apply K.x_pure
  · rfl
  · rfl
  · intro w'; go_simp; first | done | exact K.vint (IntWalk.i64_in _ (by omega)) | rfl | exact ⟨rfl, rfl⟩
  simp only [Act.put, List.setIfInBounds_toArray, List.set]
  apply K.x_held
  · rfl
  · rfl
  · intro w' hx; have hc := hx.all.1.1; have hf := hx.all.1.2; have hc' := hx.all.2.1; have hf' := hx.all.2.2; go_simp; first | done | rfl | exact ⟨rfl, rfl⟩
  simp only [Act.put, List.setIfInBounds_toArray, List.set]
  apply K.x_newsl
  · rfl
  · rfl
  · rfl
  · go_simp; first | done | omega
  · intro w'; go_simp; first | done | rfl | exact ⟨rfl, rfl⟩
  intro g5_2 w_2_ hx_2_ hg5_2 hb_2_
  simp only [Act.put, List.setIfInBounds_toArray, List.set]
  apply K.x_op_is
  · rfl
  · rfl
  · rfl
  · intro w' hx hp; have hc := hx.all.1.1; have hf := hx.all.1.2; have hc' := hx.all.2.1; have hf' := hx.all.2.2; have hq_ := K.byte_str (P := Tryd.prog) (src := 22) (dst := 9) Tryd.underlying22 Tryd.underlying5 Tryd.underlying9 hb.1 hb.2 (K.SP.sl_at (hp 2 _ (by kernel_rfl) rfl rfl)); go_simp; first | done | rfl
  intro w_3_ hx_3_
  simp only [Act.put, List.setIfInBounds_toArray, List.set]
  iterate 2
    apply K.x_pure
    · rfl
    · rfl
    · intro w'; go_simp; first | done | exact K.vint (IntWalk.i64_in _ (by omega)) | rfl | exact ⟨rfl, rfl⟩
    simp only [Act.put, List.setIfInBounds_toArray, List.set]
  apply K.x_held
  · rfl
  · rfl
  · intro w' hx; have hc := hx.all.1.1; have hf := hx.all.1.2; have hc' := hx.all.2.1; have hf' := hx.all.2.2; go_simp; first | done | rfl | exact ⟨rfl, rfl⟩
  simp only [Act.put, List.setIfInBounds_toArray, List.set]
  apply K.x_call_is
  · rfl
  · rfl
  · rfl
  · intro w'; go_simp; first | done | rfl | exact ⟨rfl, rfl⟩
  · intro w' hx hp; have hc := hx.all.1.1; have hf := hx.all.1.2; have hc' := hx.all.2.1; have hf' := hx.all.2.2; exact HD _ ((((K.Ext.refl _).alloc _).drew).trans hx)
  intro w_7_ hx_7_
  simp only [Act.put, List.setIfInBounds_toArray, List.set]
  apply K.x_pure
  · rfl
  · rfl
  · intro w'; go_simp; first | done | exact K.vint (IntWalk.i64_in _ (by omega)) | rfl | exact ⟨rfl, rfl⟩
  simp only [Act.put, List.setIfInBounds_toArray, List.set]
  apply K.x_done
  intro w1 h_x
  have x1 := hx_2_.trans (hx_3_.trans (hx_7_.trans h_x))
  have hb5_2 := K.Ext.block (hx_3_.trans (hx_7_.trans h_x)) hb_2_
  have cg5_2_0 : w1.cell? ⟨g5_2, 0, none⟩ = some (.int .u8 ms) := K.cell_at hb5_2 rfl
  have fg5_2_0 : w1.frozen? ⟨g5_2, 0, none⟩ = false := K.thaw_at hb5_2
  clear h_x hx_2_ hx_3_ hx_7_
  obtain ⟨⟨hcw1, hfw1⟩, hc'w1, hf'w1⟩ := x1.all
  have s1 : w.heap.size + 1 ≤ w1.heap.size := (by have h_ := x1.size; (try simp at h_); omega)
  have X1 := K.Ext.trans (K.Ext.drew (K.Ext.alloc X0 _)) x1
  obtain ⟨c1_0_0, c1_0_1, c1_0_2⟩ := K.c3 x1 (w.heap.size) (.int .i64 1) (.int .u8 ms) (.int .i64 ts) (by go_simp)
  have z1_0 : w.heap.size < w1.heap.size := World.block_lt_of_cell? w1 _ c1_0_0
  have d1_0 : ¬ (w.heap.size = w1.heap.size) := (by omega)
  have e1_0 : ¬ (w1.heap.size = w.heap.size) := (by omega)
  go_wp2_with fail
  refine NoPanic.normal ?_
  go_wp2_with fail
  rw [HE.out]
  refine bodyPost_ret (v := .string (((⟨#[120]⟩) ++ (⟨#[UInt8.ofNat ms.toNat]⟩)) ++ D)) (by unfold results; rw [Tryd.results65]; go_simp) rfl ⟨rfl, ?_⟩
  repeat with_reducible refine K.Ext.setCell ?_ (by dsimp only; omega) _
  exact (by repeat' (first | with_reducible exact X1 | with_reducible refine K.Ext.setCell ?_ ?_ _ | with_reducible refine K.Ext.alloc ?_ _ | with_reducible refine K.Ext.drew ?_ | (dsimp only; omega) | omega | (simp; omega)))
theorem stepText_any (s : Z.St) (w : World) (hs : Z.isStep s = true) (hL : LTab w) :
    Calls Tryd.prog 65 #[.agg #[.int .i64 s.kd, .int .u8 s.nm, .int .i64 s.pw]] w fun e w' => e = .returned (.string (Z.str (Z.stepText s))) ∧ K.Ext w w' := by
  rcases Z.step_kinds3 hs with ⟨m, t, rfl⟩ | ⟨m, t, rfl, b0, b1, h1, h2⟩ | ⟨t, rfl, h1, h2⟩
  · exact stepText_0 m t w
  · exact stepText_1 m t w ⟨b0, b1⟩ h1 h2 hL
  · exact stepText_2 0 t w h1 h2 hL
set_option maxRecDepth 100000 in
set_option maxHeartbeats 6400000 in
theorem impl_StepsText (xs : List Z.St) {lo hi : Nat} {v : Value} (w : World) (hm : xs.length ≤ 1048576) (h : K.recs false K.StR w lo hi v xs) (hL : LTab w) :
    Calls Tryd.prog 28 #[v] w fun e w' => e = .returned (.tuple #[.string (Z.StepsText xs).1, .int .i64 (Z.StepsText xs).2]) ∧ K.Ext w w' := by
  have h1 := h
  obtain ⟨o, cap, rfl, _⟩ := h1
  have HH := Z.hide h
  have HT := Z.hide hL
  obtain ⟨c, hcd⟩ : ∃ c, c = Z.stCode xs := ⟨_, rfl⟩
  have HK : ∀ w' : World, K.Ext w w' → Calls Tryd.prog 64 #[.slice o xs.length cap] w' fun e w'' => e = .returned (.int .i64 c) ∧ K.Ext w' w'' := fun w' hx => by have h_ := checkSteps_any xs w' hm (HH.out.ext hx); rwa [← hcd] at h_
  by_cases hc : c = 0
  · subst hc
    have hc := hcd.symm
    have HE : Hid (Z.StepsText xs = (Z.stepsText xs, 0)) := Z.hide (by unfold Z.StepsText; rw [if_pos hc])
    have HV := Z.hide (Z.code_valid hc)
    obtain ⟨it0, hi0, hz0, hz1, hz2⟩ := info_parts info_str
    obtain ⟨n, hn⟩ : ∃ n, n = xs.length := ⟨_, rfl⟩
    have HN := Z.hide hn
    rw [← hn] at HK hm ⊢
    have hn12 : n ≤ 12 := by rw [hn]; exact Z.code_len hc
    clear h hc hn hL hcd
    go_enter Tryd.func28, Tryd.ntmps28
    go_wp2_with ((go_at_call 64; refine K.call (by with_reducible rfl) (by with_reducible rfl) (HK _ (K.Ext.refl _)) ?_; rintro e w1 ⟨rfl, hw1⟩))
    have HX1 := Z.hide hw1
    have lw1 := hw1.size
    clear HK hw1
    go_loopw [5, 16] (fun s i wr => ∃ k : Nat, k ≤ n ∧ i = .int .i64 k ∧ Hid (wr.ownsRow w.heap.size 9 1 s k (strVals (Z.stTexts xs k))) ∧ Hid (K.Ext w wr)) (fun _ i _ => n - (intOf i).toNat)
    case atStart => exact ⟨0, Nat.zero_le _, rfl, Z.hide (World.ownsRow_lit _ _ _ (by omega) (by decide) rfl), Z.hide (HX1.out.alloc _)⟩
    case round =>
      obtain ⟨k, hk, rfl, HO, HX⟩ := hrel
      by_cases hlt : k < n
      · have hkn : k < xs.length := by rw [← HN.out]; exact hlt
        obtain ⟨b, off, rfl, _, _, hc, _⟩ := K.recs_at HH.out (by omega)
        have hc0 : wr.cell? ⟨b, off + k * 3, none⟩ = some (.int .i64 (xs[k]'hkn).kd) := HX.out.cell_of (hc k hkn 0 (by decide))
        have hc1 : wr.cell? ⟨b, off + k * 3 + 1, none⟩ = some (.int .u8 (xs[k]'hkn).nm) := HX.out.cell_of (hc k hkn 1 (by decide))
        have hc2 : wr.cell? ⟨b, off + k * 3 + 2, none⟩ = some (.int .i64 (xs[k]'hkn).pw) := HX.out.cell_of (hc k hkn 2 (by decide))
        have hv := Z.hide (HV.out (xs[k]'hkn) (List.getElem_mem hkn))
        have HN1 := Z.hide (Z.stTexts_succ hkn)
        have k0 : (0 : Int) ≤ (k : Int) := Int.natCast_nonneg k
        have k1 : (k : Int) < (n : Int) := by omega
        have lbw : wr.heap.size ≠ b := by have := World.block_lt_of_cell? wr _ hc0; simp only at this; omega
        have lw := HX.out.size
        have HTr := Z.hide (HT.out.ext HX.out)
        clear hc
        obtain ⟨s, hs⟩ : ∃ s, s = (xs[k]'hkn) := ⟨_, rfl⟩
        rw [← hs] at hc0 hc1 hc2 hv HN1
        clear hs
        have HC : ∀ w', K.Ext wr w' → Calls Tryd.prog 65 #[.agg #[.int .i64 s.kd, .int .u8 s.nm, .int .i64 s.pw]] w' fun e w'' => e = .returned (.string (Z.str (Z.stepText s))) ∧ K.Ext w' w'' := fun w' hx => stepText_any s w' hv.out (HTr.out.ext hx)
        obtain ⟨B, hB⟩ : ∃ B, B = Z.str (Z.stepText s) := ⟨_, rfl⟩
        have HB := Z.hide hB
        rw [← hB] at HC
        clear hB
        obtain ⟨d, m, t0⟩ := s
        dsimp only at hc0 hc1 hc2 HC
        go_wp2_with (first | (go_at_call 65; refine K.call (by with_reducible rfl) (by with_reducible rfl) (HC _ (by repeat' (first | with_reducible exact K.Ext.refl _ | with_reducible assumption | with_reducible refine K.Ext.drew ?_ | with_reducible refine K.Ext.alloc ?_ _ | with_reducible refine K.Ext.setCell ?_ ?_ _ | with_reducible refine K.Ext.trans ?_ (by with_reducible assumption) | (dsimp only; omega) | omega | exact K.Ext.refl _ | assumption | apply K.Ext.drew | refine K.Ext.alloc ?_ _ | refine K.Ext.setCell ?_ ?_ _ | (simp; done) | (simp; omega) | refine K.Ext.trans ?_ (by assumption)))) ?_; rintro e w2 ⟨rfl, f2⟩; have g2 : K.Ext wr w2 := (by repeat' (first | with_reducible exact K.Ext.refl _ | with_reducible assumption | with_reducible refine K.Ext.drew ?_ | with_reducible refine K.Ext.alloc ?_ _ | with_reducible refine K.Ext.setCell ?_ ?_ _ | with_reducible refine K.Ext.trans ?_ (by with_reducible assumption) | (dsimp only; omega) | omega | exact K.Ext.refl _ | assumption | apply K.Ext.drew | refine K.Ext.alloc ?_ _ | refine K.Ext.setCell ?_ ?_ _ | (simp; done) | (simp; omega) | refine K.Ext.trans ?_ (by assumption))); have l2 := g2.size; clear HC) | (at_builtin; refine wpList_append_lies _ rfl _ _ _ rfl w.heap.size 9 it0 _ 1 16 Tryd.underlying70 hi0 hz0 hz1 hz2 rfl (by omega) _ k _ rfl ((K.row_ext HO.out g2).alloc _) ⟨w2.heap.size, 0, none⟩ 1 1 [.string B] rfl rfl (World.news_of_block (cs := #[.string B]) (t := 9) (fr := (0, 0)) (K.block_new rfl)) (by simp [Value.oneCell']) (by omega) (by unfold maxLen; omega) (by omega) (by simp; omega) (w2.heap.size + 1) (by simp) ?_; intro g3 gcap3 w3 hown3 hgrow3 hat3 hlt3; have HO3 := Z.hide hown3; have HX3 : Hid (K.Ext w w3) := Z.hide (((HX.out.trans g2).alloc _).below.grown hgrow3 (by simp; omega) (fun g hg => (HO.out.lt g hg).1)); clear hown3 hgrow3 hat3 hlt3))
        go_roundw
        case rel => exact ⟨k + 1, by omega, by go_num, Z.hide (by have h_ := HO3.out; rw [HB.out] at h_; rw [HN1.out, strVals_snoc]; exact h_), HX3⟩
        case measure => first | (simp [intOf]; done) | (simp [intOf]; omega)
      · obtain rfl : k = n := by omega
        have hl := Z.stTexts_length (l := xs) (k := k) (by rw [← HN.out]; exact Nat.le_refl _)
        have HF : Hid (Z.stepsText xs = Z.str (Z.joinB 32 (Z.stTexts xs k))) := Z.hide (by unfold Z.stepsText; rw [← HN.out])
        have HJ := Z.hide (Z.stJoin_len HV.out k (by rw [← HN.out]; exact Nat.le_refl _))
        by_cases hp : k = 0
        · subst hp
          have HR : Hid (Z.stepsText xs = ⟨#[]⟩) := Z.hide (HF.out.trans rfl)
          rcases HO.out.2 with ⟨rfl, _⟩ | ⟨g, cc, cur, rfl, _⟩
          all_goals
            clear HO hl
            go_wp2_with fail
            refine K.call (by with_reducible rfl) (by with_reducible rfl) (Tryd.strings_Join_none _ _ _ _) ?_
            rintro e w2 ⟨rfl, rfl⟩
            go_wp2
            go_ret2
            exact ⟨by rw [HE.out, HR.out]; rfl, HX.out⟩
        · have hne : Z.stTexts xs k ≠ [] := fun e => hp (by rw [← hl, e]; rfl)
          have HK := join_any (Z.stTexts xs k) 32 wr hne (by have := HJ.out; omega) (by omega) (base := w.heap.size) (by rw [hl]; exact HO.out)
          rw [← HF.out] at HK
          obtain ⟨g, cc, rfl, _, _⟩ := HO.out.form (by omega)
          clear hne hl HO
          go_wp2_with fail
          refine K.call (by with_reducible rfl) (by with_reducible rfl) HK ?_
          rintro e w2 ⟨rfl, f2⟩
          go_wp2
          go_ret2
          exact ⟨by rw [HE.out]; rfl, HX.out.trans f2⟩
  · have HE : Hid (Z.StepsText xs = (⟨#[]⟩, c)) := Z.hide (by unfold Z.StepsText; rw [← hcd, if_neg hc])
    have hc' : (c == 0) = false := by simpa using hc
    clear hcd
    go_enter Tryd.func28, Tryd.ntmps28
    go_wp2_with ((go_at_call 64; refine K.call (by with_reducible rfl) (by with_reducible rfl) (HK _ (K.Ext.refl _)) ?_; rintro e w1 ⟨rfl, hw1⟩))
    go_ret2
    exact ⟨by rw [HE.out]; rfl, hw1⟩
set_option maxRecDepth 100000 in
set_option maxHeartbeats 6400000 in
theorem l21Text_any (xs : List Z.St) {lo hi : Nat} {v : Value} (w : World) (hv : ∀ s ∈ xs, Z.isStep s = true) (hm : xs.length ≤ 1048576) (h : K.recs false K.StR w lo hi v xs) :
    Calls Tryd.prog 62 #[v] w fun e w' => e = .returned (.string (Z.stepsText xs)) ∧ K.Ext w w' := by
  have h1 := h
  obtain ⟨o, cap, rfl, _⟩ := h1
  have HH := Z.hide h
  have HV := Z.hide hv
  obtain ⟨n, hn⟩ : ∃ n, n = xs.length := ⟨_, rfl⟩
  have HN := Z.hide hn
  rw [← hn] at hm ⊢
  clear h hn hv
  go_enter Tryd.func62, Tryd.ntmps62
  go_wp2
  go_loopw [3, 4] (fun s i wr => ∃ (k : Nat) (S : ByteArray), k ≤ n ∧ i = .int .i64 k ∧ s = .string S ∧ Hid (S = Z.str (Z.joinB 32 (Z.stTexts xs k))) ∧ S.size ≤ 23 * k ∧ Hid (K.Ext w wr)) (fun _ i _ => n - (intOf i).toNat)
  case atStart => exact ⟨0, ⟨#[]⟩, Nat.zero_le _, rfl, rfl, Z.hide rfl, by decide, Z.hide (K.Ext.refl _)⟩
  case round =>
    obtain ⟨k, S, hk, rfl, rfl, HS, hs, HX⟩ := hrel
    by_cases hlt : k < n
    · have hkn : k < xs.length := by rw [← HN.out]; exact hlt
      obtain ⟨b, off, rfl, _, _, hc, _⟩ := K.recs_at HH.out (by omega)
      have hc0 : wr.cell? ⟨b, off + k * 3, none⟩ = some (.int .i64 (xs[k]'hkn).kd) := HX.out.cell_of (hc k hkn 0 (by decide))
      have hc1 : wr.cell? ⟨b, off + k * 3 + 1, none⟩ = some (.int .u8 (xs[k]'hkn).nm) := HX.out.cell_of (hc k hkn 1 (by decide))
      have hc2 : wr.cell? ⟨b, off + k * 3 + 2, none⟩ = some (.int .i64 (xs[k]'hkn).pw) := HX.out.cell_of (hc k hkn 2 (by decide))
      have hv := Z.hide (HV.out (xs[k]'hkn) (List.getElem_mem hkn))
      have HJ := Z.hide (Z.stJoin_len HV.out (k + 1) (by omega))
      have HM := Z.hide (fun (h0 : 0 < k) => Z.stStr_more hkn h0 HS.out)
      have HF : Hid (k = 0 → Z.str (Z.joinB 32 (Z.stTexts xs (k + 1))) = S ++ Z.str (Z.stepText (xs[k]'hkn))) := Z.hide (by
        rintro rfl
        rw [Z.stStr_first hkn, HS.out]
        show _ = Z.str [] ++ _
        rw [Z.str_append]; rfl)
      have k0 : (0 : Int) ≤ (k : Int) := Int.natCast_nonneg k
      have k1 : (k : Int) < (n : Int) := by omega
      clear hc
      obtain ⟨s, hs'⟩ : ∃ s, s = (xs[k]'hkn) := ⟨_, rfl⟩
      rw [← hs'] at hc0 hc1 hc2 hv HM HF
      clear hs'
      obtain ⟨d, m, t0⟩ := s
      dsimp only at hc0 hc1 hc2
      have qk : IntKind.i64.wrap ((k : Int) + 1) = (k : Int) + 1 := IntWalk.i64_in _ (by omega)
      have HD : -6 ≤ t0 → t0 ≤ 6 → ∀ w', Calls Tryd.prog 84 #[.int .i64 t0] w' fun e w'' => e = .returned (.string (Z.dec t0)) ∧ K.Ext w' w'' := fun h1 h2 w' => l01Number_any _ w' (by omega) (by omega)
      have hds : -6 ≤ t0 → t0 ≤ 6 → (Z.dec t0).size ≤ 20 := fun h1 h2 => (Z.dec_size (n := t0) (by omega) (by omega)).2
      by_cases hz : k = 0
      · subst hz
        simp only [Nat.zero_mul, Nat.add_zero] at hc0 hc1 hc2
        have n0 : (0 : Int) < (n : Int) := by omega
        have HR := Z.hide (HF.out rfl)
        clear qk k0 k1
        have hR := congrArg ByteArray.size HR.out
        rw [Z.str_size] at hR
        have HRs := Z.hide hR
        clear hR HF HM
        rcases Z.step_kinds3 hv.out with ⟨m', t', h_⟩ | ⟨m', t', h_, b0, b1, h1, h2⟩ | ⟨t', h_, h1, h2⟩
        · obtain ⟨rfl, rfl, rfl⟩ := Z.St.mk.inj h_
          rw [Z.stepText_0] at HR HRs
          have o1 : ¬ (9223372036854775807 < S.size + 1) := by omega
          go_wp2
          go_roundw
          case rel => exact ⟨0 + 1, _, by omega, by go_num, rfl, Z.hide HR.out.symm, by rw [← HRs.out]; exact HJ.out, HX⟩
          case measure => first | (simp [intOf]; done) | (simp [intOf]; omega)
        · obtain ⟨rfl, rfl, rfl⟩ := Z.St.mk.inj h_
          rw [Z.stepText_1, ← ByteArray.append_assoc, ← ByteArray.append_assoc] at HR HRs
          have HD := HD h1 h2
          have hds := hds h1 h2
          generalize Z.dec t0 = D at *
          have o1 : ¬ (9223372036854775807 < S.size + 1) := by omega
          have o2 : ¬ (9223372036854775807 < S.size + 2) := by omega
          have o3 : ¬ (9223372036854775807 < S.size + 2 + D.size) := by omega
          have o4 : ¬ (9223372036854775807 < S.size + 1 + 1) := by omega
          have o5 : ¬ (9223372036854775807 < S.size + 1 + 1 + D.size) := by omega
          go_wp2_with fail
          refine K.wp_region_x 17 [0, 0, 0, 0, 0, 0, 1, 2, 2, 0, 0, 0, 0, 0, 1, 2, 0] [K.SP.any, K.SP.any, K.SP.any, K.SP.any, K.SP.any, K.SP.any, K.SP.any, K.SP.sl (wr.heap.size) (.cells #[.int .u8 m] 5), K.SP.is (.string ⟨#[UInt8.ofNat m.toNat]⟩), K.SP.any, K.SP.any, K.SP.any, K.SP.any, K.SP.any, K.SP.any, K.SP.is (.string D)] (by kernel_rfl) (by kernel_rfl) ?_
          simp only [List.take_succ_cons, List.take_zero, List.drop_succ_cons, List.drop_zero]
          iterate 6
            apply K.x_pure
            · rfl
            · rfl
            · intro w'; go_simp; first | done | exact K.vint (IntWalk.i64_in _ (by omega)) | rfl | exact ⟨rfl, rfl⟩
            simp only [Act.put, List.setIfInBounds_toArray, List.set]
          apply K.x_held
          · rfl
          · rfl
          · intro w' hx; have hc := hx.all.1.1; have hf := hx.all.1.2; have hc' := hx.all.2.1; have hf' := hx.all.2.2; go_simp; first | done | rfl | exact ⟨rfl, rfl⟩
          simp only [Act.put, List.setIfInBounds_toArray, List.set]
          apply K.x_newsl
          · rfl
          · rfl
          · rfl
          · go_simp; first | done | omega
          · intro w'; go_simp; first | done | rfl | exact ⟨rfl, rfl⟩
          intro g12_7 w_7_ hx_7_ hg12_7 hb_7_
          simp only [Act.put, List.setIfInBounds_toArray, List.set]
          apply K.x_op_is
          · rfl
          · rfl
          · rfl
          · intro w' hx hp; have hc := hx.all.1.1; have hf := hx.all.1.2; have hc' := hx.all.2.1; have hf' := hx.all.2.2; have hq_ := K.byte_str (P := Tryd.prog) (src := 22) (dst := 9) Tryd.underlying22 Tryd.underlying5 Tryd.underlying9 b0 b1 (K.SP.sl_at (hp 7 _ (by kernel_rfl) rfl rfl)); go_simp; first | done | rfl
          intro w_8_ hx_8_
          simp only [Act.put, List.setIfInBounds_toArray, List.set]
          iterate 5
            apply K.x_pure
            · rfl
            · rfl
            · intro w'; go_simp; first | done | exact K.vint (IntWalk.i64_in _ (by omega)) | rfl | exact ⟨rfl, rfl⟩
            simp only [Act.put, List.setIfInBounds_toArray, List.set]
          apply K.x_held
          · rfl
          · rfl
          · intro w' hx; have hc := hx.all.1.1; have hf := hx.all.1.2; have hc' := hx.all.2.1; have hf' := hx.all.2.2; go_simp; first | done | rfl | exact ⟨rfl, rfl⟩
          simp only [Act.put, List.setIfInBounds_toArray, List.set]
          apply K.x_call_is
          · rfl
          · rfl
          · rfl
          · intro w'; go_simp; first | done | rfl | exact ⟨rfl, rfl⟩
          · intro w' hx hp; have hc := hx.all.1.1; have hf := hx.all.1.2; have hc' := hx.all.2.1; have hf' := hx.all.2.2; exact HD _
          intro w_15_ hx_15_
          simp only [Act.put, List.setIfInBounds_toArray, List.set]
          apply K.x_pure
          · rfl
          · rfl
          · intro w'; go_simp; first | done | exact K.vint (IntWalk.i64_in _ (by omega)) | rfl | exact ⟨rfl, rfl⟩
          simp only [Act.put, List.setIfInBounds_toArray, List.set]
          apply K.x_done
          intro w2 h_x
          have hx2 := hx_7_.trans (hx_8_.trans (hx_15_.trans h_x))
          have hb12_7 := K.Ext.block (hx_8_.trans (hx_15_.trans h_x)) hb_7_
          have cg12_7_0 : w2.cell? ⟨g12_7, 0, none⟩ = some (.int .u8 m) := K.cell_at hb12_7 rfl
          have fg12_7_0 : w2.frozen? ⟨g12_7, 0, none⟩ = false := K.thaw_at hb12_7
          clear h_x hx_7_ hx_8_ hx_15_
          obtain ⟨⟨hcw2, hfw2⟩, hc'w2, hf'w2⟩ := hx2.all
          go_wp2_with fail
          refine NoPanic.normal ?_
          go_wp2
          go_roundw
          case rel => exact ⟨0 + 1, _, by omega, by go_num, rfl, Z.hide HR.out.symm, by rw [← HRs.out]; exact HJ.out, Z.hide (HX.out.trans (((K.Ext.refl _).drew).trans hx2))⟩
          case measure => first | (simp [intOf]; done) | (simp [intOf]; omega)
        · obtain ⟨rfl, rfl, rfl⟩ := Z.St.mk.inj h_
          rw [Z.stepText_2, ← ByteArray.append_assoc] at HR HRs
          have HD := HD h1 h2
          have hds := hds h1 h2
          generalize Z.dec t0 = D at *
          have o1 : ¬ (9223372036854775807 < S.size + 1) := by omega
          have o2 : ¬ (9223372036854775807 < S.size + 1 + D.size) := by omega
          go_wp2_with fail
          refine K.call (by with_reducible rfl) (by with_reducible rfl) (HD _) ?_
          rintro e w2 ⟨rfl, f2⟩
          go_wp2
          go_roundw
          case rel => exact ⟨0 + 1, _, by omega, by go_num, rfl, Z.hide HR.out.symm, by rw [← HRs.out]; exact HJ.out, Z.hide (HX.out.trans f2)⟩
          case measure => first | (simp [intOf]; done) | (simp [intOf]; omega)
      · have z0 : (0 : Int) < (k : Int) := by omega
        have z1 : 0 < k := by omega
        have HR := Z.hide (HM.out z1)
        have hR := congrArg ByteArray.size HR.out
        rw [Z.str_size] at hR
        have HRs := Z.hide hR
        clear hR HF HM
        rcases Z.step_kinds3 hv.out with ⟨m', t', h_⟩ | ⟨m', t', h_, b0, b1, h1, h2⟩ | ⟨t', h_, h1, h2⟩
        · obtain ⟨rfl, rfl, rfl⟩ := Z.St.mk.inj h_
          rw [Z.stepText_0] at HR HRs
          have o1 : ¬ (9223372036854775807 < S.size + 1) := by omega
          have o2 : ¬ (9223372036854775807 < S.size + 2) := by omega
          have o3 : ¬ (9223372036854775807 < S.size + 1 + 1) := by omega
          go_wp2
          go_roundw
          case rel => exact ⟨k + 1, _, by omega, by go_num, rfl, Z.hide HR.out.symm, by rw [← HRs.out]; exact HJ.out, HX⟩
          case measure => first | (simp [intOf]; done) | (simp [intOf]; omega)
        · obtain ⟨rfl, rfl, rfl⟩ := Z.St.mk.inj h_
          rw [Z.stepText_1, ← ByteArray.append_assoc, ← ByteArray.append_assoc] at HR HRs
          have HD := HD h1 h2
          have hds := hds h1 h2
          generalize Z.dec t0 = D at *
          have o1 : ¬ (9223372036854775807 < S.size + 1) := by omega
          have o2 : ¬ (9223372036854775807 < S.size + 2) := by omega
          have o3 : ¬ (9223372036854775807 < S.size + 3) := by omega
          have o4 : ¬ (9223372036854775807 < S.size + 3 + D.size) := by omega
          have o5 : ¬ (9223372036854775807 < S.size + 1 + 1) := by omega
          have o6 : ¬ (9223372036854775807 < S.size + 1 + 1 + 1) := by omega
          have o7 : ¬ (9223372036854775807 < S.size + 1 + 1 + 1 + D.size) := by omega
          go_wp2_with fail
          refine K.wp_region_x 17 [0, 0, 0, 0, 0, 0, 1, 2, 2, 0, 0, 0, 0, 0, 1, 2, 0] [K.SP.any, K.SP.any, K.SP.any, K.SP.any, K.SP.any, K.SP.any, K.SP.any, K.SP.sl (wr.heap.size) (.cells #[.int .u8 m] 5), K.SP.is (.string ⟨#[UInt8.ofNat m.toNat]⟩), K.SP.any, K.SP.any, K.SP.any, K.SP.any, K.SP.any, K.SP.any, K.SP.is (.string D)] (by kernel_rfl) (by kernel_rfl) ?_
          simp only [List.take_succ_cons, List.take_zero, List.drop_succ_cons, List.drop_zero]
          iterate 6
            apply K.x_pure
            · rfl
            · rfl
            · intro w'; go_simp; first | done | exact K.vint (IntWalk.i64_in _ (by omega)) | rfl | exact ⟨rfl, rfl⟩
            simp only [Act.put, List.setIfInBounds_toArray, List.set]
          apply K.x_held
          · rfl
          · rfl
          · intro w' hx; have hc := hx.all.1.1; have hf := hx.all.1.2; have hc' := hx.all.2.1; have hf' := hx.all.2.2; go_simp; first | done | rfl | exact ⟨rfl, rfl⟩
          simp only [Act.put, List.setIfInBounds_toArray, List.set]
          apply K.x_newsl
          · rfl
          · rfl
          · rfl
          · go_simp; first | done | omega
          · intro w'; go_simp; first | done | rfl | exact ⟨rfl, rfl⟩
          intro g12_7 w_7_ hx_7_ hg12_7 hb_7_
          simp only [Act.put, List.setIfInBounds_toArray, List.set]
          apply K.x_op_is
          · rfl
          · rfl
          · rfl
          · intro w' hx hp; have hc := hx.all.1.1; have hf := hx.all.1.2; have hc' := hx.all.2.1; have hf' := hx.all.2.2; have hq_ := K.byte_str (P := Tryd.prog) (src := 22) (dst := 9) Tryd.underlying22 Tryd.underlying5 Tryd.underlying9 b0 b1 (K.SP.sl_at (hp 7 _ (by kernel_rfl) rfl rfl)); go_simp; first | done | rfl
          intro w_8_ hx_8_
          simp only [Act.put, List.setIfInBounds_toArray, List.set]
          iterate 5
            apply K.x_pure
            · rfl
            · rfl
            · intro w'; go_simp; first | done | exact K.vint (IntWalk.i64_in _ (by omega)) | rfl | exact ⟨rfl, rfl⟩
            simp only [Act.put, List.setIfInBounds_toArray, List.set]
          apply K.x_held
          · rfl
          · rfl
          · intro w' hx; have hc := hx.all.1.1; have hf := hx.all.1.2; have hc' := hx.all.2.1; have hf' := hx.all.2.2; go_simp; first | done | rfl | exact ⟨rfl, rfl⟩
          simp only [Act.put, List.setIfInBounds_toArray, List.set]
          apply K.x_call_is
          · rfl
          · rfl
          · rfl
          · intro w'; go_simp; first | done | rfl | exact ⟨rfl, rfl⟩
          · intro w' hx hp; have hc := hx.all.1.1; have hf := hx.all.1.2; have hc' := hx.all.2.1; have hf' := hx.all.2.2; exact HD _
          intro w_15_ hx_15_
          simp only [Act.put, List.setIfInBounds_toArray, List.set]
          apply K.x_pure
          · rfl
          · rfl
          · intro w'; go_simp; first | done | exact K.vint (IntWalk.i64_in _ (by omega)) | rfl | exact ⟨rfl, rfl⟩
          simp only [Act.put, List.setIfInBounds_toArray, List.set]
          apply K.x_done
          intro w2 h_x
          have hx2 := hx_7_.trans (hx_8_.trans (hx_15_.trans h_x))
          have hb12_7 := K.Ext.block (hx_8_.trans (hx_15_.trans h_x)) hb_7_
          have cg12_7_0 : w2.cell? ⟨g12_7, 0, none⟩ = some (.int .u8 m) := K.cell_at hb12_7 rfl
          have fg12_7_0 : w2.frozen? ⟨g12_7, 0, none⟩ = false := K.thaw_at hb12_7
          clear h_x hx_7_ hx_8_ hx_15_
          obtain ⟨⟨hcw2, hfw2⟩, hc'w2, hf'w2⟩ := hx2.all
          go_wp2_with fail
          refine NoPanic.normal ?_
          go_wp2
          go_roundw
          case rel => exact ⟨k + 1, _, by omega, by go_num, rfl, Z.hide HR.out.symm, by rw [← HRs.out]; exact HJ.out, Z.hide (HX.out.trans (((K.Ext.refl _).drew).trans hx2))⟩
          case measure => first | (simp [intOf]; done) | (simp [intOf]; omega)
        · obtain ⟨rfl, rfl, rfl⟩ := Z.St.mk.inj h_
          rw [Z.stepText_2, ← ByteArray.append_assoc] at HR HRs
          have HD := HD h1 h2
          have hds := hds h1 h2
          generalize Z.dec t0 = D at *
          have o1 : ¬ (9223372036854775807 < S.size + 1) := by omega
          have o2 : ¬ (9223372036854775807 < S.size + 2) := by omega
          have o3 : ¬ (9223372036854775807 < S.size + 2 + D.size) := by omega
          have o4 : ¬ (9223372036854775807 < S.size + 1 + 1) := by omega
          have o5 : ¬ (9223372036854775807 < S.size + 1 + 1 + D.size) := by omega
          go_wp2_with fail
          refine K.call (by with_reducible rfl) (by with_reducible rfl) (HD _) ?_
          rintro e w2 ⟨rfl, f2⟩
          go_wp2
          go_roundw
          case rel => exact ⟨k + 1, _, by omega, by go_num, rfl, Z.hide HR.out.symm, by rw [← HRs.out]; exact HJ.out, Z.hide (HX.out.trans f2)⟩
          case measure => first | (simp [intOf]; done) | (simp [intOf]; omega)
    · obtain rfl : k = n := by omega
      have HF : Hid (Z.stepsText xs = S) := Z.hide (by unfold Z.stepsText; rw [← HN.out, HS.out])
      go_wp2
      go_ret
      exact ⟨by rw [HF.out]; rfl, HX.out⟩
set_option maxRecDepth 100000 in
theorem spec_StepsText (xs : List Z.St) {lo hi : Nat} {v : Value} (w : World) (hm : xs.length ≤ 1048576) (h : K.recs false K.StR w lo hi v xs) :
    Calls Tryd.prog 26 #[v] w fun e w' => e = .returned (.tuple #[.string (Z.StepsText xs).1, .int .i64 (Z.StepsText xs).2]) ∧ K.Ext w w' := by
  have h1 := h
  obtain ⟨o, cap, rfl, _⟩ := h1
  have HH := Z.hide h
  obtain ⟨c, hcd⟩ : ∃ c, c = Z.stCode xs := ⟨_, rfl⟩
  have HK : ∀ w' : World, K.Ext w w' → Calls Tryd.prog 61 #[.slice o xs.length cap] w' fun e w'' => e = .returned (.int .i64 c) ∧ K.Ext w' w'' := fun w' hx => by have h_ := l21Code_any xs w' hm (HH.out.ext hx); rwa [← hcd] at h_
  by_cases hc : c = 0
  · subst hc
    have HE : Hid (Z.StepsText xs = (Z.stepsText xs, 0)) := Z.hide (by unfold Z.StepsText; rw [if_pos hcd.symm])
    have HV := Z.hide (Z.code_valid hcd.symm)
    have HC : ∀ w' : World, K.Ext w w' → Calls Tryd.prog 62 #[.slice o xs.length cap] w' fun e w'' => e = .returned (.string (Z.stepsText xs)) ∧ K.Ext w' w'' := fun w' hx => l21Text_any xs w' HV.out hm (HH.out.ext hx)
    clear hcd h
    go_enter Tryd.func26, Tryd.ntmps26
    go_wp2_with fail
    refine K.call (by with_reducible rfl) (by with_reducible rfl) (HK _ (K.Ext.refl _)) ?_
    rintro e w1 ⟨rfl, f1⟩
    go_wp2_with fail
    refine K.call (by with_reducible rfl) (by with_reducible rfl) (HC _ f1) ?_
    rintro e w2 ⟨rfl, f2⟩
    go_wp2
    go_ret2
    exact ⟨by rw [HE.out]; rfl, f1.trans f2⟩
  · have HE : Hid (Z.StepsText xs = (⟨#[]⟩, c)) := Z.hide (by unfold Z.StepsText; rw [← hcd, if_neg hc])
    have hc' : (c == 0) = false := by simpa using hc
    clear hcd
    go_enter Tryd.func26, Tryd.ntmps26
    go_wp2_with fail
    refine K.call (by with_reducible rfl) (by with_reducible rfl) (HK _ (K.Ext.refl _)) ?_
    rintro e w1 ⟨rfl, f1⟩
    go_wp2
    go_ret2
    exact ⟨by rw [HE.out]; rfl, f1⟩
end Go.Proofs.YtbloldnmlhhbhaaDoor
end
section
namespace Go.Proofs.YtbloldnmlhhbhaaDoor
open Go.RowKit
set_option maxHeartbeats 8000000 in
theorem law_FnExactStepsText (S0 : List (Z.St)) (v0 : Value) (w : World) (pl0 : (S0.length : Int) ≤ 9223372036854775807) (h0 : K.recs false K.StR w 0 w.heap.size v0 S0) (hL : LTab w) :
    Calls Tryd.prog 6 #[v0] w fun e w' => e = .returned (.bool true) ∧ K.Ext w w' := by
  have F1_0 := h0
  obtain ⟨o0_0, c0_0, rfl, _⟩ := h0
  have X0 : K.Ext w w := K.Ext.refl w
  go_enter Tryd.func6, Tryd.ntmps6
  go_wp2_with (go_at_call 25; refine K.call (by with_reducible rfl) (by with_reducible rfl) (szStepS_any S0 _ _ (by omega) (by omega) pl0 (F1_0)) ?_; rintro e w1 ⟨⟨r1, rfl, u1_, b1⟩, x1⟩; have s1 : w.heap.size ≤ w1.heap.size := (by have h_ := x1.size; (try simp at h_); omega); have X1 := K.Ext.trans (X0) x1; have F1_1 := K.recs.ext (F1_0) x1; clear F1_0)
  · go_ret
    exact ⟨rfl, X1⟩
  have hm1 := b1.resolve_left (by omega)
  go_wp2_with (go_at_call 27; refine K.call (by with_reducible rfl) (by with_reducible rfl) (toStepS_any S0 _ hm1 (F1_1)) ?_; rintro e w2 ⟨⟨p2, rfl, g2⟩, x2⟩; obtain ⟨o2, k2, rfl, _⟩ := K.recs.plain g2; have F2_2 : K.recs true K.StR w2 (w1.heap.size) (w2.heap.size) (.slice o2 S0.length k2) (S0) := g2.mono (by simp) (Nat.le_refl _); clear g2; have s2 : w1.heap.size ≤ w2.heap.size := (by have h_ := x2.size; (try simp at h_); omega); have X2 := K.Ext.trans (X1) x2; have F1_2 := K.recs.ext (F1_1) x2; clear F1_1)
  go_wp2_with (go_at_call 26; refine K.call (by with_reducible rfl) (by with_reducible rfl) (spec_StepsText S0 _ hm1 (K.recs.plain (F2_2))) ?_; rintro e w3 ⟨rfl, x3⟩; have s3 : w2.heap.size ≤ w3.heap.size := (by have h_ := x3.size; (try simp at h_); omega); have X3 := K.Ext.trans (X2) x3; have F1_3 := K.recs.ext (F1_2) x3; have F2_3 := K.recs.ext (F2_2) x3; clear F1_2 F2_2)
  go_wp2_with (go_at_call 27; refine K.call (by with_reducible rfl) (by with_reducible rfl) (toStepS_any S0 _ hm1 (F1_3)) ?_; rintro e w4 ⟨⟨p4, rfl, g4⟩, x4⟩; obtain ⟨o4, k4, rfl, _⟩ := K.recs.plain g4; have F3_4 : K.recs true K.StR w4 (w3.heap.size) (w4.heap.size) (.slice o4 S0.length k4) (S0) := g4.mono (by simp) (Nat.le_refl _); clear g4; have s4 : w3.heap.size ≤ w4.heap.size := (by have h_ := x4.size; (try simp at h_); omega); have X4 := K.Ext.trans (X3) x4; have F1_4 := K.recs.ext (F1_3) x4; have F2_4 := K.recs.ext (F2_3) x4; clear F1_3 F2_3)
  go_wp2_with (go_at_call 28; refine K.call (by with_reducible rfl) (by with_reducible rfl) (impl_StepsText S0 _ hm1 (K.recs.plain (F3_4)) (hL.ext (X4))) ?_; rintro e w5 ⟨rfl, x5⟩; have s5 : w4.heap.size ≤ w5.heap.size := (by have h_ := x5.size; (try simp at h_); omega); have X5 := K.Ext.trans (X4) x5; have F1_5 := K.recs.ext (F1_4) x5; have F2_5 := K.recs.ext (F2_4) x5; have F3_5 := K.recs.ext (F3_4) x5; clear F1_4 F2_4 F3_4)
  go_wp2_with (go_at_call 27; refine K.call (by with_reducible rfl) (by with_reducible rfl) (toStepS_any S0 _ hm1 (F1_5)) ?_; rintro e w6 ⟨⟨p6, rfl, g6⟩, x6⟩; obtain ⟨o6, k6, rfl, _⟩ := K.recs.plain g6; have F4_6 : K.recs true K.StR w6 (w5.heap.size) (w6.heap.size) (.slice o6 S0.length k6) (S0) := g6.mono (by simp) (Nat.le_refl _); clear g6; have s6 : w5.heap.size ≤ w6.heap.size := (by have h_ := x6.size; (try simp at h_); omega); have X6 := K.Ext.trans (X5) x6; have F1_6 := K.recs.ext (F1_5) x6; have F2_6 := K.recs.ext (F2_5) x6; have F3_6 := K.recs.ext (F3_5) x6; clear F1_5 F2_5 F3_5)
  go_wp2_with (go_at_call 29; refine K.call (by with_reducible rfl) (by with_reducible rfl) (eqStepS_same S0 _ hm1 (K.recs.plain (F3_6)) (K.recs.plain (F4_6))) ?_; rintro e w7 ⟨rfl, x7⟩; have s7 : w6.heap.size ≤ w7.heap.size := (by have h_ := x7.size; (try simp at h_); omega); have X7 := K.Ext.trans (X6) x7; have F1_7 := K.recs.ext (F1_6) x7; have F2_7 := K.recs.ext (F2_6) x7; have F3_7 := K.recs.ext (F3_6) x7; have F4_7 := K.recs.ext (F4_6) x7; clear F1_6 F2_6 F3_6 F4_6)
  go_ret
  exact ⟨rfl, X7⟩
end Go.Proofs.YtbloldnmlhhbhaaDoor
end
section
namespace Go.Proofs.YtbloldnmlhhbhaaDoor
open Go.ChangeShapes Go.WideShapes Go.ChangeAt Go.RowKit
namespace frameFnExactStepsText
theorem own : ownKnob Tryd.prog.godebug = none := by kernel_rfl
theorem laidOut : laidOutB Tryd.prog = true := by kernel_rfl
theorem reads : ∀ t ∈ Tryd.f6.params.toList, Tryd.prog.readableRec t = true ∧ t < Tryd.prog.types.size := by
  rw [Tryd.params6]
  intro t ht
  simp only [List.mem_cons, List.not_mem_nil, or_false] at ht
  subst ht; exact ⟨by kernel_rfl, of_decide_eq_true (by kernel_rfl)⟩
theorem gTab : Tryd.prog.globalNamed "internal/strconv.uint64pow10" = some 3 := by kernel_rfl
theorem gTabType : (Tryd.prog.globals[3]?).map (·.type) = some 162 := by kernel_rfl
theorem cellsT : Tryd.prog.cellsOf 162 = 20 := by kernel_rfl
theorem cellsE : Tryd.prog.cellsOf 141 = 1 := by kernel_rfl
theorem laidList {W : World} (h : laidMetH Tryd.prog Rows.fnExactStepsTextRow.laid W) : laidMet Tryd.prog Rows.fnExactStepsTextRow.laid W := by
  rwa [MakeChecks.laidMetH_plain _ _ _ (by kernel_rfl)] at h
theorem table {W : World} (h : laidMetH Tryd.prog Rows.fnExactStepsTextRow.laid W) : LTab W := by
  have h3 := (laidList h).tail.tail
  exact ⟨Lib.tabIs_of_head (k := .u64) (zs := Lib.pow10Tab) gTab gTabType Tryd.underlying162 Tryd.underlying141 cellsE cellsT h3⟩
theorem laid_met (os : Os) : laidMetH Tryd.prog Rows.fnExactStepsTextRow.laid ((World.doorLaid Tryd.prog 72 os).forCall (fun _ _ => 0) ⟨#[], #[.slice none 0 0], []⟩).memory :=
  laidMetH_of_parts3 (fuel := 8) (laidMet_of_run' 8 (by kernel_rfl) (by kernel_rfl)) (by kernel_rfl) (by kernel_rfl)
set_option maxRecDepth 100000 in
theorem lifted (os : Os) (started : os.Started) (H : Type) (enc : TypeId × Value → H) :
    ReturnsInHanded {} Tryd.checked os 6 .any (fun w args => (Rows.fnExactStepsTextSpec.pre enc Tryd.prog Tryd.f6 Rows.fnExactStepsTextRow.domain false w args ∧ laidMetH Tryd.prog Rows.fnExactStepsTextRow.laid w) ∧ sizedMet enc Tryd.prog Tryd.f6 (OpenSpec.ofChange Rows.fnExactStepsTextSpec) false w args) (Rows.fnExactStepsTextSpec.post enc Tryd.prog Tryd.f6 false true false false) := by
  refine returnsInHanded_of_change_and (C := Tryd.checked) (X := fun w _ => laidMetH Tryd.prog Rows.fnExactStepsTextRow.laid w) (fun _ _ _ hh h => h.of_heap hh) own started (by kernel_rfl) Tryd.func6
    (ChangeSpec.witness_shaped (enc := enc) (C := Tryd.checked) (os := os) (X := fun w _ => laidMetH Tryd.prog Rows.fnExactStepsTextRow.laid w) false (World.doorLaid Tryd.prog 72 os) #[.slice none 0 0] 8 rfl (World.shaped_of_RefB (by kernel_rfl) (by kernel_rfl)) (by kernel_rfl) (by kernel_rfl) (by kernel_rfl) (laid_met os)) ?_
  intro W base args ds gs before hval0 hW hcnd _ hL _
  have hval : ∀ (j : Nat) t v, Tryd.f6.params[j]? = some t → args[j]? = some v → Value.okWide Tryd.prog W .any base t v := hval0
  have hW' := hW
  obtain ⟨p, q, hA0, hV, rfl, hfz, hnd⟩ := hW
  have hA : DataW.TrodAll enc Tryd.prog W 0 (fun _ => true) true Tryd.f6.params.toList args.toList ds p := hA0
  rw [Tryd.params6] at hA hval
  obtain ⟨rfl, rfl⟩ := trodVars_none hV
  obtain ⟨v0, vs0, d0, ds0, p0, q0, hargs, rfl, rfl, h0, r0⟩ := trodAll_cons hA
  obtain ⟨rfl, rfl, rfl⟩ := trodAll_nil r0
  obtain rfl : args = #[v0] := by cases args; simp_all
  clear hA0 hval0
  obtain ⟨a0, l0, c0, rfl⟩ := okWide_slice Tryd.underlying46 (hval 0 46 v0 rfl rfl)
  obtain ⟨fu0, hf0⟩ := h0
  obtain ⟨x0, zs0, ex0, hx0, hl0, hq0⟩ := K.recs_arg (R := K.StR) (Q := Z.byteSt) Z.zeroSt (by decide) Tryd.underlying46 (by kernel_rfl) (fun n cs y hy => K.step_cells Tryd.underlying84 Tryd.underlying2 Tryd.underlying5 Tryd.underlying2 ⟨by kernel_rfl, by kernel_rfl, by kernel_rfl, by kernel_rfl⟩ ⟨rfl, rfl, rfl⟩ hy) hf0
  obtain rfl : Value.slice a0 l0 c0 = x0 := by simpa [Value.cells] using ex0
  refine Calls.mono (law_FnExactStepsText zs0 _ W hl0 hx0 (table hL)) fun e W' ⟨he, hg⟩ => ?_
  subst he
  exact ⟨_, rfl, K.law_post laidOut reads rfl Tryd.underlying4 rfl hW' rfl hg⟩
theorem over : Rows.FnExactStepsTextSaid :=
  OpenClaim.holds_of_wide 6 Tryd.f6 rfl rfl rfl rfl rfl rfl rfl ⟨rfl, rfl, rfl, rfl, rfl⟩ rfl rfl rfl rfl rfl (by kernel_rfl) Tryd.func6 (by kernel_rfl)
    (of_decide_eq_true (by kernel_rfl)) (by unfold Func.isWrapper; first | (rw [if_pos (by decide +kernel)]; kernel_rfl) | (rw [if_neg (by decide +kernel)]; exact ⟨rfl, rfl⟩))
    (fun os started H enc _ => lifted os started H enc)
theorem plain (f : FuncId) (fn : Func) (hf : Tryd.pinned.checked.prog.funcNamed "loop.example/g00951/laws.FnExactStepsText" = some f) (hfn : Tryd.pinned.checked.prog.funcs[f]? = some fn) :
    true = Tryd.pinned.checked.prog.looks [] ∧ ∀ (j : Nat) t, fn.params[j]? = some t → Tryd.pinned.checked.prog.wantsStandIn t = false := by
  obtain rfl : f = 6 := Option.some.inj ((show Tryd.prog.funcNamed "loop.example/g00951/laws.FnExactStepsText" = some 6 by kernel_rfl).symm.trans hf) |>.symm
  obtain rfl : fn = Tryd.f6 := (Option.some.inj (Tryd.func6.symm.trans hfn)).symm
  refine ⟨by kernel_rfl, fun j t ht => ?_⟩
  rw [Tryd.params6] at ht
  have hm := Array.mem_of_getElem? ht
  simp only [List.mem_toArray, List.mem_cons, List.not_mem_nil, or_false] at hm
  subst hm
  exact (show Tryd.prog.wantsStandIn 46 = false by kernel_rfl)
/-- The given statement: the card. -/
theorem proved : Rows.FnExactStepsTextCardSaid :=
  Claim7.holds_tied_plain_at .later [] _ _ _ _ over (fun _ h => by cases h) (by kernel_rfl) (fun _ h => by cases h) fnExactStepsText_row_tie rfl ⟨rfl, rfl⟩ (by kernel_rfl) rfl plain (by kernel_rfl)
#print axioms proved
end frameFnExactStepsText
end Go.Proofs.YtbloldnmlhhbhaaDoor
end
