/-
  For every input the law FnFormulaTexts returns true, and its arguments read as before; the library's tables start as the program's text lays them (the card ties them).
-/
import Derived.Test.YtbloldnmlhhbhaaDoorPFT2
import Derived.Shelf.LaysC
import Derived.Shelf.LaysM
import Derived.Shelf.Strconv.Itoa4
import Derived.Shelf.Strconv.ParseIntPublic10
import Derived.Shelf.Strings.Cut
import Derived.Shelf.Strings.OnBuilder
import Derived.Shelf.Strings.Prefix
import Derived.Shelf.Strings.Replace
import Derived.Shelf.Strings.Search3
import Derived.Shelf.Strings.Split
import Derived.Shelf.Strings.SplitShaped
import Derived.Lib.AppendIntMem
import Derived.Lib.ParseIntBTie
import Derived.Lib.Replace
import Derived.Lib.ReplaceLaws
import Derived.OneCell
import Derived.Deep.DeepHandedRow
import Derived.Deep.DeepWitnessRowRef
import Derived.LaidMore
import Derived.Lib.LaidTab
import Derived.MakeChecks
import Derived.SevenTiedAt
import Derived.Stop.Joined
import Derived.Stop.LaidErr
import Derived.Test.YtbloldnmlhhbhaaDoorCards
import Derived.Test.YtbloldnmlhhbhaaDoorRows
import Derived.Test.YtbloldnmlhhbhaaDoorTie
set_option linter.unusedVariables false
section
namespace Go.Proofs
open Go.Shelf
def Tryd.laysM173_ren : Go.Shelf.Ren := ⟨fun | 173 => 102 | 246 => 120 | 283 => 134 | 284 => 135 | 285 => 136 | 286 => 137 | 129 => 145 | 317 => 144 | 318 => 146 | 319 => 147 | 320 => 148 | 337 => 150 | 338 => 151 | n => n, fun | 2 => 2 | 3 => 3 | 9 => 9 | 4 => 4 | 171 => 151 | 0 => 0 | 53 => 141 | 37 => 22 | 5 => 5 | 173 => 154 | 212 => 162 | 51 => 147 | 20 => 20 | 213 => 163 | 46 => 132 | 232 => 174 | 233 => 175 | n => n, fun | 17 => 3 | 18 => 6 | 19 => 7 | n => n⟩
theorem Tryd.laysM173 : Go.Proofs.LaysM.n173 Tryd.prog Tryd.laysM173_ren := {
  mixed := by kernel_rfl
  f129 := Tryd.func145.trans (congrArg some (by kernel_rfl))
  f173 := Tryd.func102.trans (congrArg some (by kernel_rfl))
  f246 := Tryd.func120.trans (congrArg some (by kernel_rfl))
  f283 := Tryd.func134.trans (congrArg some (by kernel_rfl))
  f284 := Tryd.func135.trans (congrArg some (by kernel_rfl))
  f285 := Tryd.func136.trans (congrArg some (by kernel_rfl))
  f286 := Tryd.func137.trans (congrArg some (by kernel_rfl))
  f317 := Tryd.func144.trans (congrArg some (by kernel_rfl))
  f318 := Tryd.func146.trans (congrArg some (by kernel_rfl))
  f319 := Tryd.func147.trans (congrArg some (by kernel_rfl))
  f320 := Tryd.func148.trans (congrArg some (by kernel_rfl))
  f337 := Tryd.func150.trans (congrArg some (by kernel_rfl))
  f338 := Tryd.func151.trans (congrArg some (by kernel_rfl))
  t0 := Tryd.underlying0
  a0 := Tryd.isAgg0
  z0 := Tryd.sizeOf0
  v0 := Tryd.zeroValue0
  t2 := Tryd.underlying2
  a2 := Tryd.isAgg2
  z2 := Tryd.sizeOf2
  v2 := Tryd.zeroValue2
  t3 := Tryd.underlying3
  a3 := Tryd.isAgg3
  z3 := Tryd.sizeOf3
  v3 := Tryd.zeroValue3
  t4 := Tryd.underlying4
  a4 := Tryd.isAgg4
  z4 := Tryd.sizeOf4
  v4 := Tryd.zeroValue4
  t5 := Tryd.underlying5
  a5 := Tryd.isAgg5
  z5 := Tryd.sizeOf5
  v5 := Tryd.zeroValue5
  t9 := Tryd.underlying9
  a9 := Tryd.isAgg9
  z9 := Tryd.sizeOf9
  v9 := Tryd.zeroValue9
  t20 := Tryd.underlying20
  a20 := Tryd.isAgg20
  z20 := Tryd.sizeOf20
  v20 := Tryd.zeroValue20
  t37 := Tryd.underlying22
  a37 := Tryd.isAgg22
  z37 := Tryd.sizeOf22
  v37 := Tryd.zeroValue22
  t46 := Tryd.underlying132
  a46 := Tryd.isAgg132
  z46 := Tryd.sizeOf132
  v46 := Tryd.zeroValue132
  t51 := Tryd.underlying147
  a51 := Tryd.isAgg147
  z51 := Tryd.sizeOf147
  v51 := Tryd.zeroValue147
  t53 := Tryd.underlying141
  a53 := Tryd.isAgg141
  z53 := Tryd.sizeOf141
  v53 := Tryd.zeroValue141
  t171 := Tryd.underlying151
  a171 := Tryd.isAgg151
  z171 := Tryd.sizeOf151
  v171 := Tryd.zeroValue151
  t173 := Tryd.underlying154
  a173 := Tryd.isAgg154
  z173 := Tryd.sizeOf154
  v173 := Tryd.zeroValue154
  t212 := Tryd.underlying162
  a212 := Tryd.isAgg162
  z212 := Tryd.sizeOf162
  v212 := Tryd.zeroValue162
  t213 := Tryd.underlying163
  a213 := Tryd.isAgg163
  z213 := Tryd.sizeOf163
  t232 := Tryd.underlying174
  a232 := Tryd.isAgg174
  z232 := Tryd.sizeOf174
  v232 := Tryd.zeroValue174
  t233 := Tryd.underlying175
  a233 := Tryd.isAgg175
  z233 := Tryd.sizeOf175
  v233 := Tryd.zeroValue175
  g17 := by kernel_rfl
  g18 := by kernel_rfl
  g19 := by kernel_rfl
  i0 := by kernel_rfl
  i2 := by kernel_rfl
  i3 := by kernel_rfl
  i4 := by kernel_rfl
  i5 := by kernel_rfl
  i9 := by kernel_rfl
  i20 := by kernel_rfl
  i37 := by kernel_rfl
  i46 := by kernel_rfl
  i51 := by kernel_rfl
  i53 := by kernel_rfl
  i171 := by kernel_rfl
  i173 := by kernel_rfl
  i212 := by kernel_rfl
  i232 := by kernel_rfl
  i233 := by kernel_rfl
  m17 := by kernel_rfl
  m18 := by kernel_rfl
  m19 := by kernel_rfl }
open Go.RowKit Go.Sort Go.Lib in
/-- strconv.FormatInt: "FormatInt returns the string representation of i in the given base": AT BASE 10: i's decimal numeral, for every int64. (LAID: no walk: one application.) -/
theorem Tryd.strconv_FormatInt_10 (n : Int) (h0 : -9223372036854775808 ≤ n) (h1 : n ≤ 9223372036854775807) (w : World) (htab : Lib.TabIs Tryd.prog w "internal/strconv.uint64pow10" .u64 Lib.pow10Tab) :
    Calls Tryd.prog 102 #[.int .i64 n, .int .i64 10] w fun e w' => e = .returned (.string ⟨(Lib.itoa n).toArray⟩) ∧ ∃ k os, w' = grow (w.drewN k) os := Any.strconv_FormatInt_10 Tryd.laysM173 n h0 h1 w htab
def Tryd.laysC174_ren : Go.Shelf.Ren := ⟨fun | 174 => 100 | 247 => 114 | 245 => 115 | 287 => 127 | 279 => 128 | 280 => 129 | 281 => 130 | 282 => 131 | 321 => 139 | 322 => 140 | 316 => 141 | 171 => 143 | 205 => 142 | 243 => 149 | 246 => 120 | 283 => 134 | 284 => 135 | 285 => 136 | 286 => 137 | 129 => 145 | 317 => 144 | 318 => 146 | 319 => 147 | 320 => 148 | 337 => 150 | 338 => 151 | n => n, fun | 9 => 9 | 3 => 3 | 2 => 2 | 75 => 116 | 85 => 121 | 4 => 4 | 167 => 140 | 5 => 5 | 53 => 141 | 175 => 142 | 46 => 132 | 168 => 144 | 37 => 22 | 0 => 0 | 210 => 159 | 21 => 21 | 127 => 127 | 145 => 172 | 143 => 170 | 171 => 151 | 173 => 154 | 212 => 162 | 51 => 147 | 20 => 20 | 213 => 163 | 232 => 174 | 233 => 175 | 80 => 119 | n => n, fun | 15 => 1 | 16 => 2 | 17 => 3 | 18 => 6 | 19 => 7 | n => n⟩
theorem Tryd.laysC174 : Go.Proofs.LaysC.n174 Tryd.prog Tryd.laysC174_ren := {
  mixed := by kernel_rfl
  f129 := Tryd.func145.trans (congrArg some (by kernel_rfl))
  f171 := Tryd.func143.trans (congrArg some (by kernel_rfl))
  f174 := Tryd.func100.trans (congrArg some (by kernel_rfl))
  f205 := Tryd.func142.trans (congrArg some (by kernel_rfl))
  f243 := Tryd.func149.trans (congrArg some (by kernel_rfl))
  f245 := Tryd.func115.trans (congrArg some (by kernel_rfl))
  f246 := Tryd.func120.trans (congrArg some (by kernel_rfl))
  f247 := Tryd.func114.trans (congrArg some (by kernel_rfl))
  f279 := Tryd.func128.trans (congrArg some (by kernel_rfl))
  f280 := Tryd.func129.trans (congrArg some (by kernel_rfl))
  f281 := Tryd.func130.trans (congrArg some (by kernel_rfl))
  f282 := Tryd.func131.trans (congrArg some (by kernel_rfl))
  f283 := Tryd.func134.trans (congrArg some (by kernel_rfl))
  f284 := Tryd.func135.trans (congrArg some (by kernel_rfl))
  f285 := Tryd.func136.trans (congrArg some (by kernel_rfl))
  f286 := Tryd.func137.trans (congrArg some (by kernel_rfl))
  f287 := Tryd.func127.trans (congrArg some (by kernel_rfl))
  f316 := Tryd.func141.trans (congrArg some (by kernel_rfl))
  f317 := Tryd.func144.trans (congrArg some (by kernel_rfl))
  f318 := Tryd.func146.trans (congrArg some (by kernel_rfl))
  f319 := Tryd.func147.trans (congrArg some (by kernel_rfl))
  f320 := Tryd.func148.trans (congrArg some (by kernel_rfl))
  f321 := Tryd.func139.trans (congrArg some (by kernel_rfl))
  f322 := Tryd.func140.trans (congrArg some (by kernel_rfl))
  f337 := Tryd.func150.trans (congrArg some (by kernel_rfl))
  f338 := Tryd.func151.trans (congrArg some (by kernel_rfl))
  t0 := Tryd.underlying0
  a0 := Tryd.isAgg0
  z0 := Tryd.sizeOf0
  v0 := Tryd.zeroValue0
  t2 := Tryd.underlying2
  a2 := Tryd.isAgg2
  z2 := Tryd.sizeOf2
  v2 := Tryd.zeroValue2
  t3 := Tryd.underlying3
  a3 := Tryd.isAgg3
  z3 := Tryd.sizeOf3
  v3 := Tryd.zeroValue3
  t4 := Tryd.underlying4
  a4 := Tryd.isAgg4
  z4 := Tryd.sizeOf4
  v4 := Tryd.zeroValue4
  t5 := Tryd.underlying5
  a5 := Tryd.isAgg5
  z5 := Tryd.sizeOf5
  v5 := Tryd.zeroValue5
  t9 := Tryd.underlying9
  a9 := Tryd.isAgg9
  z9 := Tryd.sizeOf9
  v9 := Tryd.zeroValue9
  t20 := Tryd.underlying20
  a20 := Tryd.isAgg20
  z20 := Tryd.sizeOf20
  v20 := Tryd.zeroValue20
  t21 := Tryd.underlying21
  a21 := Tryd.isAgg21
  z21 := Tryd.sizeOf21
  v21 := Tryd.zeroValue21
  t37 := Tryd.underlying22
  a37 := Tryd.isAgg22
  z37 := Tryd.sizeOf22
  v37 := Tryd.zeroValue22
  t46 := Tryd.underlying132
  a46 := Tryd.isAgg132
  z46 := Tryd.sizeOf132
  v46 := Tryd.zeroValue132
  t51 := Tryd.underlying147
  a51 := Tryd.isAgg147
  z51 := Tryd.sizeOf147
  v51 := Tryd.zeroValue147
  t53 := Tryd.underlying141
  a53 := Tryd.isAgg141
  z53 := Tryd.sizeOf141
  v53 := Tryd.zeroValue141
  t75 := Tryd.underlying116
  a75 := Tryd.isAgg116
  z75 := Tryd.sizeOf116
  v75 := Tryd.zeroValue116
  t85 := Tryd.underlying121
  a85 := Tryd.isAgg121
  z85 := Tryd.sizeOf121
  v85 := Tryd.zeroValue121
  t127 := Tryd.underlying127
  a127 := Tryd.isAgg127
  z127 := Tryd.sizeOf127
  v127 := Tryd.zeroValue127
  t143 := Tryd.underlying170
  a143 := Tryd.isAgg170
  z143 := Tryd.sizeOf170
  v143 := Tryd.zeroValue170
  t145 := Tryd.underlying172
  a145 := Tryd.isAgg172
  z145 := Tryd.sizeOf172
  v145 := Tryd.zeroValue172
  t167 := Tryd.underlying140
  a167 := Tryd.isAgg140
  z167 := Tryd.sizeOf140
  v167 := Tryd.zeroValue140
  t168 := Tryd.underlying144
  a168 := Tryd.isAgg144
  z168 := Tryd.sizeOf144
  v168 := Tryd.zeroValue144
  t171 := Tryd.underlying151
  a171 := Tryd.isAgg151
  z171 := Tryd.sizeOf151
  v171 := Tryd.zeroValue151
  t173 := Tryd.underlying154
  a173 := Tryd.isAgg154
  z173 := Tryd.sizeOf154
  v173 := Tryd.zeroValue154
  t175 := Tryd.underlying142
  a175 := Tryd.isAgg142
  z175 := Tryd.sizeOf142
  v175 := Tryd.zeroValue142
  t210 := Tryd.underlying159
  a210 := Tryd.isAgg159
  z210 := Tryd.sizeOf159
  v210 := Tryd.zeroValue159
  t212 := Tryd.underlying162
  a212 := Tryd.isAgg162
  z212 := Tryd.sizeOf162
  v212 := Tryd.zeroValue162
  t213 := Tryd.underlying163
  a213 := Tryd.isAgg163
  z213 := Tryd.sizeOf163
  t232 := Tryd.underlying174
  a232 := Tryd.isAgg174
  z232 := Tryd.sizeOf174
  v232 := Tryd.zeroValue174
  t233 := Tryd.underlying175
  a233 := Tryd.isAgg175
  z233 := Tryd.sizeOf175
  v233 := Tryd.zeroValue175
  g15 := by kernel_rfl
  g16 := by kernel_rfl
  g17 := by kernel_rfl
  g18 := by kernel_rfl
  g19 := by kernel_rfl
  t80 := Tryd.underlying119
  a80 := Tryd.isAgg119
  z80 := Tryd.sizeOf119
  v80 := Tryd.zeroValue119
  i0 := by kernel_rfl
  i2 := by kernel_rfl
  i3 := by kernel_rfl
  i4 := by kernel_rfl
  i5 := by kernel_rfl
  i9 := by kernel_rfl
  i20 := by kernel_rfl
  i21 := by kernel_rfl
  i37 := by kernel_rfl
  i46 := by kernel_rfl
  i51 := by kernel_rfl
  i53 := by kernel_rfl
  i75 := by kernel_rfl
  i80 := by kernel_rfl
  i85 := by kernel_rfl
  i127 := by kernel_rfl
  i143 := by kernel_rfl
  i145 := by kernel_rfl
  i167 := by kernel_rfl
  i168 := by kernel_rfl
  i171 := by kernel_rfl
  i173 := by kernel_rfl
  i175 := by kernel_rfl
  i210 := by kernel_rfl
  i212 := by kernel_rfl
  i232 := by kernel_rfl
  i233 := by kernel_rfl
  m15 := by kernel_rfl
  m16 := by kernel_rfl
  m17 := by kernel_rfl
  m18 := by kernel_rfl
  m19 := by kernel_rfl
  c0 := by kernel_rfl
  c2 := by kernel_rfl
  c3 := by kernel_rfl
  c4 := by kernel_rfl
  c5 := by kernel_rfl
  c9 := by kernel_rfl
  c20 := by kernel_rfl
  c21 := by kernel_rfl
  c37 := by kernel_rfl
  c46 := by kernel_rfl
  c51 := by kernel_rfl
  c53 := by kernel_rfl
  c75 := by kernel_rfl
  c80 := by kernel_rfl
  c85 := by kernel_rfl
  c127 := by kernel_rfl
  c143 := by kernel_rfl
  c145 := by kernel_rfl
  c167 := by kernel_rfl
  c168 := by kernel_rfl
  c171 := by kernel_rfl
  c173 := by kernel_rfl
  c175 := by kernel_rfl
  c210 := by kernel_rfl
  c212 := by kernel_rfl
  c213 := by kernel_rfl
  c232 := by kernel_rfl
  c233 := by kernel_rfl }
open Go.RowKit in
/-- strconv.ParseInt(s, 10, 64), AT EVERY STRING THAT SPELLS AN int64 ('Lib.parseIntB 64 s.data.toList = .ok v'): v, AND NO ERROR. (LAID: no walk: one application.) -/
theorem Tryd.strconv_ParseInt_10_at64_ok (s : ByteArray) (hmax : s.size ≤ 9223372036854775806) (v : Int) (h : Lib.parseIntB 64 s.data.toList = .ok v) (w : World) :
    Calls Tryd.prog 100 #[.string s, .int .i64 10, .int .i64 64] w fun e w' => e = .returned (.tuple #[.int .i64 v, .nilIface]) ∧ (w' = w ∨ ∃ t, w' = Lib.bytesWorld w 5 t) := Any.strconv_ParseInt_10_at64_ok Tryd.laysC174 s hmax v h w
open Go.RowKit in
/-- strconv.ParseInt(s, 10, 64), AT EVERY STRING THAT IS NO DECIMAL NUMERAL: 0, AND AN ERROR THAT IS NOT nil: a *NumError in a new block N: {Func: "ParseInt", Num: s's bytes, Err: what the variable ErrSyntax holds}. Of what was there nothing has turned. (LAID: no walk: one application.) -/
theorem Tryd.strconv_ParseInt_10_at64_syntax (s : ByteArray) (hlim : s.size ≤ 281474976710656) (h : Lib.parseIntB 64 s.data.toList = Lib.parseIntB 64 []) (ev : Value) (w : World) (hv : w.cell? ⟨1, 0, none⟩ = some ev) (hev : ev = .nilIface ∨ ∃ te pe, ev = .iface te pe) :
    Calls Tryd.prog 100 #[.string s, .int .i64 10, .int .i64 64] w fun e w' => ∃ N, e = .returned (.tuple #[.int .i64 (0), .iface 144 (.pointer (some ⟨N, 0, none⟩))]) ∧ w.heap.size ≤ N ∧ w'.heap[N]? = some (.cells #[.string ⟨#[80, 97, 114, 115, 101, 73, 110, 116]⟩, .string s, ev] 159 (0, 0)) ∧ Below w.heap.size w w' := Any.strconv_ParseInt_10_at64_syntax Tryd.laysC174 s hlim h ev w hv hev
open Go.RowKit in
/-- strconv.ParseInt(s, 10, 64), AT EVERY NUMERAL THAT NO int64 HOLDS: THE GREATEST OR THE LEAST int64, BY THE SIGN ('Lib.intSat 64'), AND AN ERROR THAT IS NOT nil: a *NumError in a new block N: {Func: "ParseInt", Num: s's bytes, Err: what the variable ErrRange holds}. Of what was there nothing has turned. (LAID: no walk: one application.) -/
theorem Tryd.strconv_ParseInt_10_at64_range (s : ByteArray) (hlim : s.size ≤ 281474976710656) (h : Lib.parseIntB 64 s.data.toList = .range) (ev : Value) (w : World) (hv : w.cell? ⟨2, 0, none⟩ = some ev) (hev : ev = .nilIface ∨ ∃ te pe, ev = .iface te pe) :
    Calls Tryd.prog 100 #[.string s, .int .i64 10, .int .i64 64] w fun e w' => ∃ N, e = .returned (.tuple #[.int .i64 (Lib.intSat 64 s.data.toList), .iface 144 (.pointer (some ⟨N, 0, none⟩))]) ∧ w.heap.size ≤ N ∧ w'.heap[N]? = some (.cells #[.string ⟨#[80, 97, 114, 115, 101, 73, 110, 116]⟩, .string s, ev] 159 (0, 0)) ∧ Below w.heap.size w w' := Any.strconv_ParseInt_10_at64_range Tryd.laysC174 s hlim h ev w hv hev
def Tryd.lays145_ren : Go.Shelf.Ren := ⟨fun | 145 => 88 | 220 => 105 | 219 => 101 | 217 => 116 | 225 => 117 | 224 => 118 | 267 => 119 | 266 => 132 | 314 => 133 | n => n, fun | 9 => 9 | 4 => 4 | 59 => 105 | 3 => 3 | 5 => 5 | 46 => 132 | 146 => 148 | 51 => 147 | n => n, fun | 1 => 0 | n => n⟩
theorem Tryd.lays145 : Go.Proofs.Lays.n145 Tryd.prog Tryd.lays145_ren := {
  mixed := by kernel_rfl
  f145 := Tryd.func88.trans (congrArg some (by kernel_rfl))
  f217 := Tryd.func116.trans (congrArg some (by kernel_rfl))
  f219 := Tryd.func101.trans (congrArg some (by kernel_rfl))
  f220 := Tryd.func105.trans (congrArg some (by kernel_rfl))
  f224 := Tryd.func118.trans (congrArg some (by kernel_rfl))
  f225 := Tryd.func117.trans (congrArg some (by kernel_rfl))
  f266 := Tryd.func132.trans (congrArg some (by kernel_rfl))
  f267 := Tryd.func119.trans (congrArg some (by kernel_rfl))
  f314 := Tryd.func133.trans (congrArg some (by kernel_rfl))
  t3 := Tryd.underlying3
  a3 := Tryd.isAgg3
  z3 := Tryd.sizeOf3
  v3 := Tryd.zeroValue3
  t4 := Tryd.underlying4
  a4 := Tryd.isAgg4
  z4 := Tryd.sizeOf4
  v4 := Tryd.zeroValue4
  t5 := Tryd.underlying5
  a5 := Tryd.isAgg5
  z5 := Tryd.sizeOf5
  v5 := Tryd.zeroValue5
  t9 := Tryd.underlying9
  a9 := Tryd.isAgg9
  z9 := Tryd.sizeOf9
  v9 := Tryd.zeroValue9
  t46 := Tryd.underlying132
  a46 := Tryd.isAgg132
  z46 := Tryd.sizeOf132
  v46 := Tryd.zeroValue132
  t51 := Tryd.underlying147
  a51 := Tryd.isAgg147
  z51 := Tryd.sizeOf147
  v51 := Tryd.zeroValue147
  t59 := Tryd.underlying105
  a59 := Tryd.isAgg105
  z59 := Tryd.sizeOf105
  v59 := Tryd.zeroValue105
  t146 := Tryd.underlying148
  a146 := Tryd.isAgg148
  z146 := Tryd.sizeOf148
  v146 := Tryd.zeroValue148
  g1 := by kernel_rfl }
open Go.RowKit Go.Lib in
/-- strings.Cut: "Cut slices s around the first instance of sep, returning the text before and after sep. The found result reports whether sep appears in s. If sep does not appear in s, cut returns s, "", false.": IT RETURNS 'Lib.cut s sep'; the world is as it was but for the count of draws. (LAID: no walk: one application.) -/
theorem Tryd.strings_Cut (s sep : ByteArray) (m : Int) (w : World) (hs : s.size < 4294967281) (hm : w.cell? ⟨0, 0, none⟩ = some (.int .i64 m)) :
    Calls Tryd.prog 88 #[.string s, .string sep] w fun e w' => e = .returned (.tuple #[.string ⟨(Lib.cut s.data.toList sep.data.toList).1.toArray⟩, .string ⟨(Lib.cut s.data.toList sep.data.toList).2.1.toArray⟩, .bool (Lib.cut s.data.toList sep.data.toList).2.2]) ∧ ∃ n, w' = w.drewN n := Any.strings_Cut Tryd.lays145 s sep m w hs hm
def Tryd.lays146_ren : Go.Shelf.Ren := ⟨fun | 146 => 69 | 221 => 97 | 268 => 111 | 138 => 112 | 143 => 73 | 195 => 125 | 197 => 121 | 218 => 126 | 219 => 101 | 260 => 138 | 217 => 116 | 225 => 117 | 224 => 118 | 267 => 119 | 266 => 132 | 314 => 133 | n => n, fun | 9 => 9 | 31 => 70 | 3 => 3 | 4 => 4 | 0 => 0 | 105 => 133 | 21 => 21 | 5 => 5 | 46 => 132 | 119 => 166 | 139 => 169 | 138 => 168 | 146 => 148 | 51 => 147 | n => n, fun | 1 => 0 | 3 => 4 | 4 => 5 | n => n⟩
theorem Tryd.lays146 : Go.Proofs.Lays.n146 Tryd.prog Tryd.lays146_ren := {
  mixed := by kernel_rfl
  f138 := Tryd.func112.trans (congrArg some (by kernel_rfl))
  f143 := Tryd.func73.trans (congrArg some (by kernel_rfl))
  f146 := Tryd.func69.trans (congrArg some (by kernel_rfl))
  f195 := Tryd.func125.trans (congrArg some (by kernel_rfl))
  f197 := Tryd.func121.trans (congrArg some (by kernel_rfl))
  f217 := Tryd.func116.trans (congrArg some (by kernel_rfl))
  f218 := Tryd.func126.trans (congrArg some (by kernel_rfl))
  f219 := Tryd.func101.trans (congrArg some (by kernel_rfl))
  f221 := Tryd.func97.trans (congrArg some (by kernel_rfl))
  f224 := Tryd.func118.trans (congrArg some (by kernel_rfl))
  f225 := Tryd.func117.trans (congrArg some (by kernel_rfl))
  f260 := Tryd.func138.trans (congrArg some (by kernel_rfl))
  f266 := Tryd.func132.trans (congrArg some (by kernel_rfl))
  f267 := Tryd.func119.trans (congrArg some (by kernel_rfl))
  f268 := Tryd.func111.trans (congrArg some (by kernel_rfl))
  f314 := Tryd.func133.trans (congrArg some (by kernel_rfl))
  t0 := Tryd.underlying0
  a0 := Tryd.isAgg0
  z0 := Tryd.sizeOf0
  v0 := Tryd.zeroValue0
  t3 := Tryd.underlying3
  a3 := Tryd.isAgg3
  z3 := Tryd.sizeOf3
  v3 := Tryd.zeroValue3
  t4 := Tryd.underlying4
  a4 := Tryd.isAgg4
  z4 := Tryd.sizeOf4
  v4 := Tryd.zeroValue4
  t5 := Tryd.underlying5
  a5 := Tryd.isAgg5
  z5 := Tryd.sizeOf5
  v5 := Tryd.zeroValue5
  t9 := Tryd.underlying9
  a9 := Tryd.isAgg9
  z9 := Tryd.sizeOf9
  v9 := Tryd.zeroValue9
  t21 := Tryd.underlying21
  a21 := Tryd.isAgg21
  z21 := Tryd.sizeOf21
  v21 := Tryd.zeroValue21
  t31 := Tryd.underlying70
  a31 := Tryd.isAgg70
  z31 := Tryd.sizeOf70
  v31 := Tryd.zeroValue70
  t46 := Tryd.underlying132
  a46 := Tryd.isAgg132
  z46 := Tryd.sizeOf132
  v46 := Tryd.zeroValue132
  t51 := Tryd.underlying147
  a51 := Tryd.isAgg147
  z51 := Tryd.sizeOf147
  v51 := Tryd.zeroValue147
  t105 := Tryd.underlying133
  a105 := Tryd.isAgg133
  z105 := Tryd.sizeOf133
  v105 := Tryd.zeroValue133
  t119 := Tryd.underlying166
  a119 := Tryd.isAgg166
  z119 := Tryd.sizeOf166
  t138 := Tryd.underlying168
  a138 := Tryd.isAgg168
  z138 := Tryd.sizeOf168
  v138 := Tryd.zeroValue168
  t139 := Tryd.underlying169
  a139 := Tryd.isAgg169
  z139 := Tryd.sizeOf169
  v139 := Tryd.zeroValue169
  t146 := Tryd.underlying148
  a146 := Tryd.isAgg148
  z146 := Tryd.sizeOf148
  v146 := Tryd.zeroValue148
  g1 := by kernel_rfl
  g3 := by kernel_rfl
  g4 := by kernel_rfl }
open Go.RowKit Go.Lib in
/-- strings.Split. (LAID: no walk: one application.) -/
theorem Tryd.strings_Split (s sep : ByteArray) (m : Int) (w : World) (hs : s.size < 4294967281) (hm : w.cell? ⟨0, 0, none⟩ = some (.int .i64 m)) (h1 : 1 ≤ sep.size) :
    Calls Tryd.prog 69 #[.string s, .string sep] w fun e w' =>
      e = .returned (.slice (some ⟨w.heap.size, 0, none⟩) (Lib.countB s sep + 1) (Lib.countB s sep + 1)) ∧ w' = w.alloc (.cells ((Lib.splitB sep 0 (Lib.countB s sep) s).map Value.string).toArray 9) := Any.strings_Split Tryd.lays146 (by kernel_rfl) s sep m w hs hm h1
def Tryd.lays154_ren : Go.Shelf.Ren := ⟨fun | 154 => 104 | 138 => 112 | 165 => 94 | 143 => 73 | 166 => 95 | 197 => 121 | 169 => 96 | 195 => 125 | 218 => 126 | 240 => 109 | 241 => 110 | 219 => 101 | 260 => 138 | 276 => 123 | 277 => 124 | 217 => 116 | 225 => 117 | 224 => 118 | 267 => 119 | 266 => 132 | 314 => 133 | n => n, fun | 9 => 9 | 3 => 3 | 4 => 4 | 72 => 113 | 0 => 0 | 76 => 117 | 105 => 133 | 21 => 21 | 5 => 5 | 70 => 111 | 20 => 20 | 37 => 22 | 75 => 116 | 127 => 127 | 164 => 136 | 46 => 132 | 119 => 166 | 139 => 169 | 138 => 168 | 146 => 148 | 51 => 147 | 80 => 119 | n => n, fun | 1 => 0 | 3 => 4 | 4 => 5 | n => n⟩
theorem Tryd.lays154 : Go.Proofs.Lays.n154 Tryd.prog Tryd.lays154_ren := {
  mixed := by kernel_rfl
  f138 := Tryd.func112.trans (congrArg some (by kernel_rfl))
  f143 := Tryd.func73.trans (congrArg some (by kernel_rfl))
  f154 := Tryd.func104.trans (congrArg some (by kernel_rfl))
  f165 := Tryd.func94.trans (congrArg some (by kernel_rfl))
  f166 := Tryd.func95.trans (congrArg some (by kernel_rfl))
  f169 := Tryd.func96.trans (congrArg some (by kernel_rfl))
  f195 := Tryd.func125.trans (congrArg some (by kernel_rfl))
  f197 := Tryd.func121.trans (congrArg some (by kernel_rfl))
  f217 := Tryd.func116.trans (congrArg some (by kernel_rfl))
  f218 := Tryd.func126.trans (congrArg some (by kernel_rfl))
  f219 := Tryd.func101.trans (congrArg some (by kernel_rfl))
  f224 := Tryd.func118.trans (congrArg some (by kernel_rfl))
  f225 := Tryd.func117.trans (congrArg some (by kernel_rfl))
  f240 := Tryd.func109.trans (congrArg some (by kernel_rfl))
  f241 := Tryd.func110.trans (congrArg some (by kernel_rfl))
  f260 := Tryd.func138.trans (congrArg some (by kernel_rfl))
  f266 := Tryd.func132.trans (congrArg some (by kernel_rfl))
  f267 := Tryd.func119.trans (congrArg some (by kernel_rfl))
  f276 := Tryd.func123.trans (congrArg some (by kernel_rfl))
  f277 := Tryd.func124.trans (congrArg some (by kernel_rfl))
  f314 := Tryd.func133.trans (congrArg some (by kernel_rfl))
  t0 := Tryd.underlying0
  a0 := Tryd.isAgg0
  z0 := Tryd.sizeOf0
  v0 := Tryd.zeroValue0
  t3 := Tryd.underlying3
  a3 := Tryd.isAgg3
  z3 := Tryd.sizeOf3
  v3 := Tryd.zeroValue3
  t4 := Tryd.underlying4
  a4 := Tryd.isAgg4
  z4 := Tryd.sizeOf4
  v4 := Tryd.zeroValue4
  t5 := Tryd.underlying5
  a5 := Tryd.isAgg5
  z5 := Tryd.sizeOf5
  v5 := Tryd.zeroValue5
  t9 := Tryd.underlying9
  a9 := Tryd.isAgg9
  z9 := Tryd.sizeOf9
  v9 := Tryd.zeroValue9
  t20 := Tryd.underlying20
  a20 := Tryd.isAgg20
  z20 := Tryd.sizeOf20
  v20 := Tryd.zeroValue20
  t21 := Tryd.underlying21
  a21 := Tryd.isAgg21
  z21 := Tryd.sizeOf21
  v21 := Tryd.zeroValue21
  t37 := Tryd.underlying22
  a37 := Tryd.isAgg22
  z37 := Tryd.sizeOf22
  v37 := Tryd.zeroValue22
  t46 := Tryd.underlying132
  a46 := Tryd.isAgg132
  z46 := Tryd.sizeOf132
  v46 := Tryd.zeroValue132
  t51 := Tryd.underlying147
  a51 := Tryd.isAgg147
  z51 := Tryd.sizeOf147
  v51 := Tryd.zeroValue147
  t70 := Tryd.underlying111
  a70 := Tryd.isAgg111
  z70 := Tryd.sizeOf111
  v70 := Tryd.zeroValue111
  t72 := Tryd.underlying113
  a72 := Tryd.isAgg113
  z72 := Tryd.sizeOf113
  v72 := Tryd.zeroValue113
  t75 := Tryd.underlying116
  a75 := Tryd.isAgg116
  z75 := Tryd.sizeOf116
  v75 := Tryd.zeroValue116
  t76 := Tryd.underlying117
  a76 := Tryd.isAgg117
  z76 := Tryd.sizeOf117
  v76 := Tryd.zeroValue117
  t105 := Tryd.underlying133
  a105 := Tryd.isAgg133
  z105 := Tryd.sizeOf133
  v105 := Tryd.zeroValue133
  t119 := Tryd.underlying166
  a119 := Tryd.isAgg166
  z119 := Tryd.sizeOf166
  t127 := Tryd.underlying127
  a127 := Tryd.isAgg127
  z127 := Tryd.sizeOf127
  v127 := Tryd.zeroValue127
  t138 := Tryd.underlying168
  a138 := Tryd.isAgg168
  z138 := Tryd.sizeOf168
  v138 := Tryd.zeroValue168
  t139 := Tryd.underlying169
  a139 := Tryd.isAgg169
  z139 := Tryd.sizeOf169
  v139 := Tryd.zeroValue169
  t146 := Tryd.underlying148
  a146 := Tryd.isAgg148
  z146 := Tryd.sizeOf148
  v146 := Tryd.zeroValue148
  t164 := Tryd.underlying136
  a164 := Tryd.isAgg136
  z164 := Tryd.sizeOf136
  v164 := Tryd.zeroValue136
  g1 := by kernel_rfl
  g3 := by kernel_rfl
  g4 := by kernel_rfl }
theorem Tryd.Builder_Extra_154 : Builder.Extra Tryd.prog Tryd.lays154_ren := {
  sizeBuilder := by kernel_rfl
  liesBuilder := by kernel_rfl
  t5 := Tryd.underlying5
  a5 := Tryd.isAgg5
  z5 := Tryd.sizeOf5
  v5 := Tryd.zeroValue5
  infoByte := by kernel_rfl
  cellsByte := by kernel_rfl
  sizeByte := by kernel_rfl
  neB5 := by decide }
open Go.RowKit Go.Lib in
/-- strings.Replace: "Replace returns a copy of the string s with the first n non-overlapping instances of old replaced by new. .. If n < 0, there is no limit on the number of replacements.": AT AN old THAT IS NOT EMPTY: IT RETURNS 'Lib.replace s old new n'. Below the heap's end the world is as it was. IT ASKS, as strings.Index's contract: 'len(s) < 4294967281', 'hm'; and that what comes out has room: 'len(s) + Count(s, old) * len(new) ≤ 2^47'. (LAID: no walk: one application.) -/
theorem Tryd.strings_Replace (s old new : ByteArray) (n : Int) (m : Int) (w : World) (hs : s.size < 4294967281) (hm : w.cell? ⟨0, 0, none⟩ = some (.int .i64 m)) (h1 : 1 ≤ old.size) (hlen : s.size + Lib.countB s old * new.size ≤ 140737488355328) :
    Calls Tryd.prog 104 #[.string s, .string old, .string new, .int .i64 n] w fun e w' =>
      e = .returned (.string ⟨(Lib.replace s.data.toList old.data.toList new.data.toList n).toArray⟩) ∧ Below w.heap.size w w' := Any.strings_Replace Tryd.lays154 Tryd.Builder_Extra_154 s old new n m w hs hm h1 hlen
def Tryd.laysM146_ren : Go.Shelf.Ren := ⟨fun | 146 => 69 | 221 => 97 | 268 => 111 | 138 => 112 | 143 => 73 | 195 => 125 | 197 => 121 | 218 => 126 | 219 => 101 | 260 => 138 | 217 => 116 | 225 => 117 | 224 => 118 | 267 => 119 | 266 => 132 | 314 => 133 | n => n, fun | 9 => 9 | 31 => 70 | 3 => 3 | 4 => 4 | 0 => 0 | 105 => 133 | 21 => 21 | 5 => 5 | 46 => 132 | 119 => 166 | 139 => 169 | 138 => 168 | 146 => 148 | 51 => 147 | n => n, fun | 1 => 0 | 3 => 4 | 4 => 5 | n => n⟩
theorem Tryd.laysM146 : Go.Proofs.LaysM.n146 Tryd.prog Tryd.laysM146_ren := {
  mixed := by kernel_rfl
  f138 := Tryd.func112.trans (congrArg some (by kernel_rfl))
  f143 := Tryd.func73.trans (congrArg some (by kernel_rfl))
  f146 := Tryd.func69.trans (congrArg some (by kernel_rfl))
  f195 := Tryd.func125.trans (congrArg some (by kernel_rfl))
  f197 := Tryd.func121.trans (congrArg some (by kernel_rfl))
  f217 := Tryd.func116.trans (congrArg some (by kernel_rfl))
  f218 := Tryd.func126.trans (congrArg some (by kernel_rfl))
  f219 := Tryd.func101.trans (congrArg some (by kernel_rfl))
  f221 := Tryd.func97.trans (congrArg some (by kernel_rfl))
  f224 := Tryd.func118.trans (congrArg some (by kernel_rfl))
  f225 := Tryd.func117.trans (congrArg some (by kernel_rfl))
  f260 := Tryd.func138.trans (congrArg some (by kernel_rfl))
  f266 := Tryd.func132.trans (congrArg some (by kernel_rfl))
  f267 := Tryd.func119.trans (congrArg some (by kernel_rfl))
  f268 := Tryd.func111.trans (congrArg some (by kernel_rfl))
  f314 := Tryd.func133.trans (congrArg some (by kernel_rfl))
  t0 := Tryd.underlying0
  a0 := Tryd.isAgg0
  z0 := Tryd.sizeOf0
  v0 := Tryd.zeroValue0
  t3 := Tryd.underlying3
  a3 := Tryd.isAgg3
  z3 := Tryd.sizeOf3
  v3 := Tryd.zeroValue3
  t4 := Tryd.underlying4
  a4 := Tryd.isAgg4
  z4 := Tryd.sizeOf4
  v4 := Tryd.zeroValue4
  t5 := Tryd.underlying5
  a5 := Tryd.isAgg5
  z5 := Tryd.sizeOf5
  v5 := Tryd.zeroValue5
  t9 := Tryd.underlying9
  a9 := Tryd.isAgg9
  z9 := Tryd.sizeOf9
  v9 := Tryd.zeroValue9
  t21 := Tryd.underlying21
  a21 := Tryd.isAgg21
  z21 := Tryd.sizeOf21
  v21 := Tryd.zeroValue21
  t31 := Tryd.underlying70
  a31 := Tryd.isAgg70
  z31 := Tryd.sizeOf70
  v31 := Tryd.zeroValue70
  t46 := Tryd.underlying132
  a46 := Tryd.isAgg132
  z46 := Tryd.sizeOf132
  v46 := Tryd.zeroValue132
  t51 := Tryd.underlying147
  a51 := Tryd.isAgg147
  z51 := Tryd.sizeOf147
  v51 := Tryd.zeroValue147
  t105 := Tryd.underlying133
  a105 := Tryd.isAgg133
  z105 := Tryd.sizeOf133
  v105 := Tryd.zeroValue133
  t119 := Tryd.underlying166
  a119 := Tryd.isAgg166
  z119 := Tryd.sizeOf166
  t138 := Tryd.underlying168
  a138 := Tryd.isAgg168
  z138 := Tryd.sizeOf168
  v138 := Tryd.zeroValue168
  t139 := Tryd.underlying169
  a139 := Tryd.isAgg169
  z139 := Tryd.sizeOf169
  v139 := Tryd.zeroValue169
  t146 := Tryd.underlying148
  a146 := Tryd.isAgg148
  z146 := Tryd.sizeOf148
  v146 := Tryd.zeroValue148
  g1 := by kernel_rfl
  g3 := by kernel_rfl
  g4 := by kernel_rfl
  i0 := by kernel_rfl
  i3 := by kernel_rfl
  i4 := by kernel_rfl
  i5 := by kernel_rfl
  i9 := by kernel_rfl
  i21 := by kernel_rfl
  i31 := by kernel_rfl
  i46 := by kernel_rfl
  i51 := by kernel_rfl
  i105 := by kernel_rfl
  i138 := by kernel_rfl
  i139 := by kernel_rfl
  i146 := by kernel_rfl
  m1 := by kernel_rfl
  s1_3 := fun w h => Go.Proofs.cell_of_shapedOpen_int (zero := #[.int .i64 0]) (t := 3) h (of_decide_eq_true (by kernel_rfl)) (by kernel_rfl) rfl (by kernel_rfl) (by kernel_rfl) Tryd.underlying3
  m3 := by kernel_rfl
  m4 := by kernel_rfl }
end Go.Proofs
end
section
namespace Go.K
open Go.RowKit
theorem var_ext {P : Program} {w w' : World} {n : String} {cs : Array Value} (h : w.var? P n = some cs) (e : Ext w w') : w'.var? P n = some cs := by
  unfold World.var? at h ⊢
  cases hg : P.globalNamed n with
  | none => rw [hg] at h; cases h
  | some g =>
    rw [hg] at h
    simp only [Option.bind_some] at h ⊢
    cases ho : w.heap[g]? with
    | none => rw [ho] at h; cases h
    | some o =>
      rw [e.block ho]
      rw [ho] at h
      exact h
/-- the table of the powers of ten -/
structure TabV (P : Program) (w : World) : Prop where
  tab : Lib.TabIs P w "internal/strconv.uint64pow10" .u64 Lib.pow10Tab
theorem TabV.ext {P : Program} {w w' : World} (h : TabV P w) (e : Ext w w') : TabV P w' := ⟨var_ext h.tab e⟩
/-- what the library's functions ask of its variables -/
structure LibV (P : Program) (gM gS gR : Nat) (w : World) : Prop where
  tab : Lib.TabIs P w "internal/strconv.uint64pow10" .u64 Lib.pow10Tab
  maxl : ∃ m, w.cell? ⟨gM, 0, none⟩ = some (.int .i64 m)
  syn : ∃ ev, w.cell? ⟨gS, 0, none⟩ = some ev ∧ (ev = .nilIface ∨ ∃ te pe, ev = .iface te pe)
  rng : ∃ ev, w.cell? ⟨gR, 0, none⟩ = some ev ∧ (ev = .nilIface ∨ ∃ te pe, ev = .iface te pe)
theorem LibV.ext {P : Program} {gM gS gR : Nat} {w w' : World} (h : LibV P gM gS gR w) (e : Ext w w') : LibV P gM gS gR w' :=
  ⟨var_ext h.tab e, let ⟨m, hm⟩ := h.maxl; ⟨m, e.cell_of hm⟩, let ⟨v, hv, hh⟩ := h.syn; ⟨v, e.cell_of hv, hh⟩, let ⟨v, hv, hh⟩ := h.rng; ⟨v, e.cell_of hv, hh⟩⟩
theorem LibV.t {P : Program} {gM gS gR : Nat} {w : World} (h : LibV P gM gS gR w) : TabV P w := ⟨h.tab⟩
theorem str_beq (a b : ByteArray) : (a.toList == b.toList) = decide (a = b) := by
  rw [ByteArray.toList_eq, ByteArray.toList_eq]
  by_cases h : a = b
  · subst h; simp
  · rw [decide_eq_false h, beq_eq_false_iff_ne]
    intro e
    exact h (by rw [← Z.str_list a, ← Z.str_list b, e])
theorem cut_str {P : Program} {t : TypeId} {s : ByteArray} {i j : Nat} {a b : Int} (h : P.underlying t = some .string) (ha : a = (i : Int)) (hb : b = (j : Int)) (h1 : i ≤ j) (h2 : j ≤ s.size) (w : World) :
    (Instr.slice t (.string s) (some (.int .i64 a)) (some (.int .i64 b)) none).run P w = .ok (.string (s.extract i j)) w := by
  subst ha hb
  have := run_slice_string (P := P) w t s .i64 .i64 (i : Int) (j : Int) h (by omega) (by omega) (by omega)
  simpa using this
end Go.K
namespace Go.Proofs.YtbloldnmlhhbhaaDoor
open Go.RowKit
/-- .. at this program -/
abbrev LTab (w : World) : Prop := K.TabV Tryd.prog w
abbrev LV (w : World) : Prop := K.LibV Tryd.prog 0 1 2 w
theorem decimal_any (n : Int) (w : World) (h0 : -9223372036854775808 ≤ n) (h1 : n ≤ 9223372036854775807) (hL : LTab w) :
    Calls Tryd.prog 80 #[.int .i64 n] w fun e w' => e = .returned (.string (Z.dec n)) ∧ K.Ext w w' := by
  go_enter Tryd.func80, Tryd.ntmps80
  go_wp2_with fail
  refine K.call (by with_reducible rfl) (by with_reducible rfl) (Tryd.strconv_FormatInt_10 n h0 h1 w hL.tab) ?_
  rintro e w1 ⟨rfl, k, os, rfl⟩
  go_wp2_with fail
  go_ret
  exact ⟨rfl, Lib.below_grow _ _ (Nat.le_refl _) _ _⟩
set_option maxRecDepth 100000 in
set_option maxHeartbeats 6400000 in
theorem l01Dec_any (u : Nat) : ∀ (w : World) (hu : u < 1000000000000000000),
    Calls Tryd.prog 103 #[.int .i64 (u : Int)] w fun e w' => e = .returned (.string (Z.str (Lib.decDigits u))) ∧ K.Ext w w' := by
  induction u using Nat.strongRecOn with
  | _ u ih =>
    intro w hu
    have hm : (u % 10 : Nat) < 10 := Nat.mod_lt _ (by decide)
    by_cases h : u < 10
    · have h10 : (u : Int) < 10 := by omega
      have q1 : IntKind.i64.wrap (48 + (u : Int)) = 48 + (u : Int) := IntWalk.i64_in _ (by omega)
      have q2 : IntKind.u8.wrap (48 + (u : Int)) = 48 + (u : Int) := IntWalk.u8_in _ (by omega)
      have hcv := K.byte_str (P := Tryd.prog) (w := w.alloc (.cells #[.int .u8 (48 + (u : Int))] 5)) (src := 22) (dst := 9) (c := 48 + (u : Int)) Tryd.underlying22 Tryd.underlying5 Tryd.underlying9 (by omega) (by omega) (K.block_new rfl)
      go_enter Tryd.func103, Tryd.ntmps103
      go_wp2
      go_ret
      refine ⟨?_, (K.Ext.refl _).alloc _⟩
      rw [Lib.decDigits_one h]
      rfl
    · have h10 : ¬ (u : Int) < 10 := by omega
      have q0 : (u : Int).tdiv 10 = ((u / 10 : Nat) : Int) := by rw [Int.tdiv_eq_ediv_of_nonneg (by omega)]; omega
      have q0' : (u : Int).tmod 10 = ((u % 10 : Nat) : Int) := by rw [Int.tmod_eq_emod_of_nonneg (by omega)]; omega
      obtain ⟨d, hd⟩ : ∃ d : Int, d = ((u / 10 : Nat) : Int) := ⟨_, rfl⟩
      obtain ⟨r, hr⟩ : ∃ r : Int, r = 48 + ((u % 10 : Nat) : Int) := ⟨_, rfl⟩
      have r0 : 0 ≤ r := by omega
      have r1 : r ≤ 255 := by omega
      have hdec : Lib.decDigits u = Lib.decDigits (u / 10) ++ [UInt8.ofNat r.toNat] := by
        rw [Lib.decDigits, dif_neg h, show r.toNat = 48 + u % 10 by omega]
      have hs : (Z.str (Lib.decDigits (u / 10))).size ≤ 18 := by rw [Z.str_size]; exact Z.decDigits_le (k := 17) (by omega)
      have IH : ∀ w', Calls Tryd.prog 103 #[.int .i64 d] w' fun e w'' => e = .returned (.string (Z.str (Lib.decDigits (u / 10)))) ∧ K.Ext w' w'' := fun w' => by rw [hd]; exact ih (u / 10) (by omega) w' (by omega)
      have hres : Z.str (Lib.decDigits (u / 10)) ++ ⟨#[UInt8.ofNat r.toNat]⟩ = Z.str (Lib.decDigits u) := by rw [hdec, ← Z.str_append]; rfl
      have q1 : IntKind.i64.wrap ((u : Int).tdiv 10) = d := by rw [q0, ← hd]; exact IntWalk.i64_in _ (by omega)
      have q2 : IntKind.i64.wrap (48 + (u : Int).tmod 10) = r := by rw [q0', ← hr]; exact IntWalk.i64_in _ (by omega)
      have q3 : IntKind.u8.wrap r = r := IntWalk.u8_in _ (by omega)
      obtain ⟨S, hS⟩ : ∃ S, S = Z.str (Lib.decDigits (u / 10)) := ⟨_, rfl⟩
      rw [← hS] at hs hres
      have IH' : ∀ w', Calls Tryd.prog 103 #[.int .i64 d] w' fun e w'' => e = .returned (.string S) ∧ K.Ext w' w'' := fun w' => by rw [hS]; exact IH w'
      have hov : ¬ (9223372036854775807 < S.size + 1) := by omega
      obtain ⟨U, hU⟩ : ∃ U : Int, U = (u : Int) := ⟨_, rfl⟩
      rw [← hU] at q1 q2 h10 ⊢
      clear hd hr IH q0 q0' hS hdec hU
      go_enter Tryd.func103, Tryd.ntmps103
      go_wp2_with fail
      refine K.wp_region_x 10 [0, 0, 2, 0, 0, 0, 0, 2, 2, 0] [K.SP.any, K.SP.any, K.SP.is (.string S), K.SP.any, K.SP.any, K.SP.any, K.SP.any, K.SP.sl (w.heap.size) (.cells #[.int .u8 r] 5), K.SP.is (.string ⟨#[UInt8.ofNat r.toNat]⟩)] (by kernel_rfl) (by kernel_rfl) ?_
      simp only [List.take_succ_cons, List.take_zero, List.drop_succ_cons, List.drop_zero]
      iterate 2
        apply K.x_pure
        · rfl
        · rfl
        · intro w'; go_simp; first | done | exact K.vint (IntWalk.i64_in _ (by omega)) | rfl | exact ⟨rfl, rfl⟩
        simp only [Act.put, List.setIfInBounds_toArray, List.set]
      apply K.x_call_is
      · rfl
      · rfl
      · rfl
      · intro w'; go_simp; first | done | rfl | exact ⟨rfl, rfl⟩
      · intro w' hx hp; have hc := hx.all.1.1; have hf := hx.all.1.2; have hc' := hx.all.2.1; have hf' := hx.all.2.2; exact IH' _
      intro w_2_ hx_2_
      simp only [Act.put, List.setIfInBounds_toArray, List.set]
      iterate 4
        apply K.x_pure
        · rfl
        · rfl
        · intro w'; go_simp; first | done | exact K.vint (IntWalk.i64_in _ (by omega)) | rfl | exact ⟨rfl, rfl⟩
        simp only [Act.put, List.setIfInBounds_toArray, List.set]
      apply K.x_newsl
      · rfl
      · rfl
      · rfl
      · go_simp; first | done | omega
      · intro w'; go_simp; first | done | rfl | exact ⟨rfl, rfl⟩
      intro g3_7 w_7_ hx_7_ hg3_7 hb_7_
      simp only [Act.put, List.setIfInBounds_toArray, List.set]
      apply K.x_op_is
      · rfl
      · rfl
      · rfl
      · intro w' hx hp; have hc := hx.all.1.1; have hf := hx.all.1.2; have hc' := hx.all.2.1; have hf' := hx.all.2.2; have hq_ := K.byte_str (P := Tryd.prog) (src := 22) (dst := 9) Tryd.underlying22 Tryd.underlying5 Tryd.underlying9 r0 r1 (K.SP.sl_at (hp 7 _ (by kernel_rfl) rfl rfl)); go_simp; first | done | rfl
      intro w_8_ hx_8_
      simp only [Act.put, List.setIfInBounds_toArray, List.set]
      apply K.x_pure
      · rfl
      · rfl
      · intro w'; go_simp; first | done | exact K.vint (IntWalk.i64_in _ (by omega)) | rfl | exact ⟨rfl, rfl⟩
      simp only [Act.put, List.setIfInBounds_toArray, List.set]
      apply K.x_done
      intro w2 h_x
      have hx2 := hx_2_.trans (hx_7_.trans (hx_8_.trans h_x))
      have hb3_7 := K.Ext.block (hx_8_.trans h_x) hb_7_
      have cg3_7_0 : w2.cell? ⟨g3_7, 0, none⟩ = some (.int .u8 r) := K.cell_at hb3_7 rfl
      have fg3_7_0 : w2.frozen? ⟨g3_7, 0, none⟩ = false := K.thaw_at hb3_7
      clear h_x hx_2_ hx_7_ hx_8_
      obtain ⟨⟨hcw2, hfw2⟩, hc'w2, hf'w2⟩ := hx2.all
      go_wp2_with fail
      refine NoPanic.normal ?_
      go_wp2
      go_ret
      exact ⟨by rw [← hres]; rfl, (by repeat' (first | with_reducible exact K.Ext.refl _ | with_reducible assumption | with_reducible refine K.Ext.drew ?_ | with_reducible refine K.Ext.alloc ?_ _ | with_reducible refine K.Ext.setCell ?_ ?_ _ | with_reducible refine K.Ext.trans ?_ (by with_reducible assumption) | (dsimp only; omega) | omega | exact K.Ext.refl _ | assumption | apply K.Ext.drew | refine K.Ext.alloc ?_ _ | refine K.Ext.setCell ?_ ?_ _ | (simp; done) | (simp; omega) | refine K.Ext.trans ?_ (by assumption)))⟩
theorem l01Dec_int (n : Int) (w : World) (h0 : 0 ≤ n) (h1 : n < 1000000000000000000) :
    Calls Tryd.prog 103 #[.int .i64 n] w fun e w' => e = .returned (.string (Z.dec n)) ∧ K.Ext w w' := by
  obtain ⟨u, rfl⟩ : ∃ u : Nat, n = u := ⟨n.toNat, by omega⟩
  have := l01Dec_any u w (by omega)
  unfold Z.dec; rw [Z.itoa_nat]; exact this
set_option maxRecDepth 100000 in
theorem l01Number_any (n : Int) (w : World) (h0 : -1000000000000000000 < n) (h1 : n < 1000000000000000000) :
    Calls Tryd.prog 84 #[.int .i64 n] w fun e w' => e = .returned (.string (Z.dec n)) ∧ K.Ext w w' := by
  rcases Z.int_cases n with ⟨u, rfl⟩ | ⟨u, hu, rfl⟩
  · have hn : ¬ (u : Int) < 0 := by omega
    have he : Z.dec (u : Int) = Z.str (Lib.decDigits u) := by unfold Z.dec; rw [Z.itoa_nat]
    have IH := l01Dec_any u
    rw [← he] at IH
    obtain ⟨S, hS⟩ : ∃ S, S = Z.dec (u : Int) := ⟨_, rfl⟩
    rw [← hS] at IH ⊢
    obtain ⟨U, hU⟩ : ∃ U : Int, U = (u : Int) := ⟨_, rfl⟩
    rw [← hU] at IH hn ⊢
    have hb : u < 1000000000000000000 := by omega
    clear he hS hU
    go_enter Tryd.func84, Tryd.ntmps84
    go_wp2_with fail
    refine K.call (by with_reducible rfl) (by with_reducible rfl) (IH _ hb) ?_
    rintro e w1 ⟨rfl, f1⟩
    go_wp2
    go_ret
    exact ⟨rfl, f1⟩
  · have hn : -(u : Int) < 0 := by omega
    have he : Z.dec (-(u : Int)) = ⟨#[45]⟩ ++ Z.str (Lib.decDigits u) := by
      unfold Z.dec; rw [Z.itoa_neg hu]
      exact (Z.str_append [45] _).symm
    have IH := l01Dec_any u
    have hsz : (Z.str (Lib.decDigits u)).size ≤ 18 := by rw [Z.str_size]; exact Z.decDigits_le (k := 17) (by omega)
    obtain ⟨S, hS⟩ : ∃ S, S = Z.str (Lib.decDigits u) := ⟨_, rfl⟩
    rw [← hS] at IH hsz he
    rw [he]
    obtain ⟨U, hU⟩ : ∃ U : Int, U = -(u : Int) := ⟨_, rfl⟩
    obtain ⟨V, hV⟩ : ∃ V : Int, V = (u : Int) := ⟨_, rfl⟩
    rw [← hV] at IH
    rw [← hU] at hn ⊢
    have q1 : IntKind.i64.wrap (-U) = V := by rw [hU, hV, Int.neg_neg]; exact IntWalk.i64_in _ (by omega)
    have hov : ¬ (9223372036854775807 < 1 + S.size) := by omega
    have hb : u < 1000000000000000000 := by omega
    clear he hS hU hV
    go_enter Tryd.func84, Tryd.ntmps84
    go_wp2_with fail
    refine K.call (by with_reducible rfl) (by with_reducible rfl) (IH _ hb) ?_
    rintro e w1 ⟨rfl, f1⟩
    go_wp2
    go_ret
    exact ⟨rfl, f1⟩
end Go.Proofs.YtbloldnmlhhbhaaDoor
end
section
namespace Go.Z
/-- the text of a figure -/
def figText (d t : Int) : ByteArray := ((((dec d).extract 0 1 ++ ⟨#[46]⟩) ++ (dec d).extract 1 4) ++ ⟨#[101]⟩) ++ dec t
theorem dec4 {d : Int} (h : 1000 ≤ d) (h' : d ≤ 9999) : (dec d).size = 4 := by
  obtain ⟨u, rfl⟩ : ∃ u : Nat, d = u := ⟨d.toNat, by omega⟩
  unfold dec; rw [itoa_nat, str_size, Lib.decDigits_length, Lib.nDigits_unique 3 u (by omega) (by omega)]
/-- the text of one letter with its exponent -/
def partText (nm : ByteArray) (x : Int) (i : Nat) : ByteArray := if x == 1 then ⟨#[42]⟩ ++ nm.extract i (i + 1) else (⟨#[42]⟩ ++ nm.extract i (i + 1)) ++ (⟨#[94]⟩ ++ dec x)
def fmTextK (F : Fm) : Nat → ByteArray
  | 0 => figText F.dg F.tn
  | k + 1 => fmTextK F k ++ partText F.nm (F.pw.getD k 0) k
def fmText (F : Fm) : ByteArray := fmTextK F F.nm.size
theorem figText_size {d t : Int} (h : 1000 ≤ d) (h' : d ≤ 9999) (t0 : -1000000 ≤ t) (t1 : t ≤ 1000000) : (figText d t).size ≤ 26 := by
  have h1 := dec4 h h'
  have h2 := (dec_size (n := t) (by omega) (by omega)).2
  have e1 : (⟨#[46]⟩ : ByteArray).size = 1 := rfl
  have e2 : (⟨#[101]⟩ : ByteArray).size = 1 := rfl
  unfold figText
  simp only [ByteArray.size_append, ByteArray.size_extract, h1, e1, e2]
  omega
theorem partText_one {nm : ByteArray} {x : Int} {i : Nat} (h : (x == 1) = true) (S : ByteArray) : S ++ (⟨#[42]⟩ ++ nm.extract i (i + 1)) = S ++ partText nm x i := by unfold partText; rw [if_pos h]
theorem partText_other {nm : ByteArray} {x : Int} {i : Nat} (h : (x == 1) = false) (S : ByteArray) : S ++ (⟨#[42]⟩ ++ nm.extract i (i + 1)) ++ (⟨#[94]⟩ ++ dec x) = S ++ partText nm x i := by
  unfold partText; rw [if_neg (by rw [h]; exact Bool.false_ne_true), ByteArray.append_assoc]
theorem partText_one' {nm : ByteArray} {x : Int} {i : Nat} (h : (x == 1) = true) (S : ByteArray) : S ++ ⟨#[42]⟩ ++ nm.extract i (i + 1) = S ++ partText nm x i := by rw [ByteArray.append_assoc]; exact partText_one h S
theorem partText_other' {nm : ByteArray} {x : Int} {i : Nat} (h : (x == 1) = false) (S : ByteArray) : S ++ ⟨#[42]⟩ ++ nm.extract i (i + 1) ++ ⟨#[94]⟩ ++ dec x = S ++ partText nm x i := by
  rw [← partText_other h S]; simp only [ByteArray.append_assoc]
theorem partText_size {nm : ByteArray} {x : Int} {i : Nat} (h : i < nm.size) (x0 : -1000000 ≤ x) (x1 : x ≤ 1000000) : (partText nm x i).size ≤ 23 := by
  have h2 := (dec_size (n := x) (by omega) (by omega)).2
  have e1 : (⟨#[42]⟩ : ByteArray).size = 1 := rfl
  have e2 : (⟨#[94]⟩ : ByteArray).size = 1 := rfl
  unfold partText
  split <;> simp only [ByteArray.size_append, ByteArray.size_extract, e1, e2] <;> omega
end Go.Z
namespace Go.Proofs.YtbloldnmlhhbhaaDoor
open Go.RowKit
set_option maxRecDepth 100000 in
set_option maxHeartbeats 3200000 in
theorem figureText_any (d t : Int) (w : World) (d0 : 1000 ≤ d) (d1 : d ≤ 9999) (t0 : -1000000 ≤ t) (t1 : t ≤ 1000000) (hL : LTab w) :
    Calls Tryd.prog 79 #[.agg #[.int .i64 d, .int .i64 t]] w fun e w' => e = .returned (.string (Z.figText d t)) ∧ K.Ext w w' := by
  have hD := Z.dec4 d0 d1
  have hT := Z.dec_size (n := t) (by omega) (by omega)
  have HD : ∀ w', LTab w' → Calls Tryd.prog 80 #[.int .i64 d] w' fun e w'' => e = .returned (.string (Z.dec d)) ∧ K.Ext w' w'' := fun w' h => decimal_any d w' (by omega) (by omega) h
  have HT : ∀ w', LTab w' → Calls Tryd.prog 80 #[.int .i64 t] w' fun e w'' => e = .returned (.string (Z.dec t)) ∧ K.Ext w' w'' := fun w' h => decimal_any t w' (by omega) (by omega) h
  unfold Z.figText
  obtain ⟨D, hd⟩ : ∃ D, D = Z.dec d := ⟨_, rfl⟩
  obtain ⟨T, ht⟩ : ∃ T, T = Z.dec t := ⟨_, rfl⟩
  rw [← hd] at hD HD ⊢
  rw [← ht] at hT HT ⊢
  clear hd ht
  have hT' : T.size ≤ 20 := hT.2
  clear hT
  have o1 : ¬ (9223372036854775807 < 6 + T.size) := by omega
  go_enter Tryd.func79, Tryd.ntmps79
  go_wp2_with fail
  refine K.call (by with_reducible rfl) (by with_reducible rfl) (HD _ (hL.ext (by repeat' (first | with_reducible exact K.Ext.refl _ | with_reducible assumption | with_reducible refine K.Ext.drew ?_ | with_reducible refine K.Ext.alloc ?_ _ | with_reducible refine K.Ext.setCell ?_ ?_ _ | with_reducible refine K.Ext.trans ?_ (by with_reducible assumption) | (dsimp only; omega) | omega | exact K.Ext.refl _ | assumption | apply K.Ext.drew | refine K.Ext.alloc ?_ _ | refine K.Ext.setCell ?_ ?_ _ | (simp; done) | (simp; omega) | refine K.Ext.trans ?_ (by assumption))))) ?_
  rintro e w1 ⟨rfl, f1⟩
  have hL1 : LTab w1 := (hL.ext (w' := _) ((K.Ext.refl _).alloc _)).ext f1
  have c1 : w1.cell? ⟨w.heap.size, 1, none⟩ = some (.int .i64 t) := f1.cell_of (by go_simp)
  have e1 : K.Ext w w1 := ((K.Ext.refl _).alloc _).trans f1
  go_wp2_with fail
  refine K.wp_region_x 11 [0, 0, 0, 0, 0, 0, 0, 0, 1, 2, 0] [K.SP.any, K.SP.any, K.SP.any, K.SP.any, K.SP.any, K.SP.any, K.SP.any, K.SP.any, K.SP.any, K.SP.is (.string T)] (by kernel_rfl) (by kernel_rfl) ?_
  simp only [List.take_succ_cons, List.take_zero, List.drop_succ_cons, List.drop_zero]
  iterate 8
    apply K.x_pure
    · rfl
    · rfl
    · intro w'; go_simp; first | done | exact K.vint (IntWalk.i64_in _ (by omega)) | rfl | exact ⟨rfl, rfl⟩
    simp only [Act.put, List.setIfInBounds_toArray, List.set]
  apply K.x_held
  · rfl
  · rfl
  · intro w' hx; have hc := hx.all.1.1; have hf := hx.all.1.2; have hc' := hx.all.2.1; have hf' := hx.all.2.2; go_simp; first | done | rfl | exact ⟨rfl, rfl⟩
  simp only [Act.put, List.setIfInBounds_toArray, List.set]
  apply K.x_call_is
  · rfl
  · rfl
  · rfl
  · intro w'; go_simp; first | done | rfl | exact ⟨rfl, rfl⟩
  · intro w' hx hp; have hc := hx.all.1.1; have hf := hx.all.1.2; have hc' := hx.all.2.1; have hf' := hx.all.2.2; exact HT _ (K.TabV.ext hL1 (by repeat' (first | with_reducible exact K.Ext.refl _ | with_reducible assumption | with_reducible refine K.Ext.drew ?_ | with_reducible refine K.Ext.alloc ?_ _ | with_reducible refine K.Ext.setCell ?_ ?_ _ | with_reducible refine K.Ext.trans ?_ (by with_reducible assumption) | (dsimp only; omega) | omega | exact K.Ext.refl _ | assumption | apply K.Ext.drew | refine K.Ext.alloc ?_ _ | refine K.Ext.setCell ?_ ?_ _ | (simp; done) | (simp; omega) | refine K.Ext.trans ?_ (by assumption))))
  intro w_9_ hx_9_
  simp only [Act.put, List.setIfInBounds_toArray, List.set]
  apply K.x_pure
  · rfl
  · rfl
  · intro w'; go_simp; first | done | exact K.vint (IntWalk.i64_in _ (by omega)) | rfl | exact ⟨rfl, rfl⟩
  simp only [Act.put, List.setIfInBounds_toArray, List.set]
  apply K.x_done
  intro w2 h_x
  have hx2 := hx_9_.trans h_x
  clear h_x hx_9_
  obtain ⟨⟨hcw2, hfw2⟩, hc'w2, hf'w2⟩ := hx2.all
  go_wp2_with fail
  refine NoPanic.normal ?_
  go_wp2
  go_ret
  exact ⟨rfl, (by repeat' (first | with_reducible exact K.Ext.refl _ | with_reducible assumption | with_reducible refine K.Ext.drew ?_ | with_reducible refine K.Ext.alloc ?_ _ | with_reducible refine K.Ext.setCell ?_ ?_ _ | with_reducible refine K.Ext.trans ?_ (by with_reducible assumption) | (dsimp only; omega) | omega | exact K.Ext.refl _ | assumption | apply K.Ext.drew | refine K.Ext.alloc ?_ _ | refine K.Ext.setCell ?_ ?_ _ | (simp; done) | (simp; omega) | refine K.Ext.trans ?_ (by assumption)))⟩
set_option maxRecDepth 100000 in
set_option maxHeartbeats 3200000 in
theorem l02Text_any (d t : Int) (w : World) (d0 : 1000 ≤ d) (d1 : d ≤ 9999) (t0 : -1000000 ≤ t) (t1 : t ≤ 1000000) :
    Calls Tryd.prog 83 #[.agg #[.int .i64 d, .int .i64 t]] w fun e w' => e = .returned (.string (Z.figText d t)) ∧ K.Ext w w' := by
  have hD := Z.dec4 d0 d1
  have hT := Z.dec_size (n := t) (by omega) (by omega)
  have HD : ∀ w', Calls Tryd.prog 103 #[.int .i64 d] w' fun e w'' => e = .returned (.string (Z.dec d)) ∧ K.Ext w' w'' := fun w' => l01Dec_int d w' (by omega) (by omega)
  have HT : ∀ w', Calls Tryd.prog 84 #[.int .i64 t] w' fun e w'' => e = .returned (.string (Z.dec t)) ∧ K.Ext w' w'' := fun w' => l01Number_any t w' (by omega) (by omega)
  unfold Z.figText
  obtain ⟨D, hd⟩ : ∃ D, D = Z.dec d := ⟨_, rfl⟩
  obtain ⟨T, ht⟩ : ∃ T, T = Z.dec t := ⟨_, rfl⟩
  rw [← hd] at hD HD ⊢
  rw [← ht] at hT HT ⊢
  clear hd ht
  have hT' : T.size ≤ 20 := hT.2
  clear hT
  have o1 : ¬ (9223372036854775807 < 6 + T.size) := by omega
  go_enter Tryd.func83, Tryd.ntmps83
  go_wp2_with fail
  refine K.call (by with_reducible rfl) (by with_reducible rfl) (HD _) ?_
  rintro e w1 ⟨rfl, f1⟩
  have c1 : w1.cell? ⟨w.heap.size, 1, none⟩ = some (.int .i64 t) := f1.cell_of (by go_simp)
  have e1 : K.Ext w w1 := ((K.Ext.refl _).alloc _).trans f1
  go_wp2_with fail
  refine K.wp_region_x 11 [0, 0, 0, 0, 0, 0, 0, 0, 1, 2, 0] [K.SP.any, K.SP.any, K.SP.any, K.SP.any, K.SP.any, K.SP.any, K.SP.any, K.SP.any, K.SP.any, K.SP.is (.string T)] (by kernel_rfl) (by kernel_rfl) ?_
  simp only [List.take_succ_cons, List.take_zero, List.drop_succ_cons, List.drop_zero]
  iterate 8
    apply K.x_pure
    · rfl
    · rfl
    · intro w'; go_simp; first | done | exact K.vint (IntWalk.i64_in _ (by omega)) | rfl | exact ⟨rfl, rfl⟩
    simp only [Act.put, List.setIfInBounds_toArray, List.set]
  apply K.x_held
  · rfl
  · rfl
  · intro w' hx; have hc := hx.all.1.1; have hf := hx.all.1.2; have hc' := hx.all.2.1; have hf' := hx.all.2.2; go_simp; first | done | rfl | exact ⟨rfl, rfl⟩
  simp only [Act.put, List.setIfInBounds_toArray, List.set]
  apply K.x_call_is
  · rfl
  · rfl
  · rfl
  · intro w'; go_simp; first | done | rfl | exact ⟨rfl, rfl⟩
  · intro w' hx hp; have hc := hx.all.1.1; have hf := hx.all.1.2; have hc' := hx.all.2.1; have hf' := hx.all.2.2; exact HT _
  intro w_9_ hx_9_
  simp only [Act.put, List.setIfInBounds_toArray, List.set]
  apply K.x_pure
  · rfl
  · rfl
  · intro w'; go_simp; first | done | exact K.vint (IntWalk.i64_in _ (by omega)) | rfl | exact ⟨rfl, rfl⟩
  simp only [Act.put, List.setIfInBounds_toArray, List.set]
  apply K.x_done
  intro w2 h_x
  have hx2 := hx_9_.trans h_x
  clear h_x hx_9_
  obtain ⟨⟨hcw2, hfw2⟩, hc'w2, hf'w2⟩ := hx2.all
  go_wp2_with fail
  refine NoPanic.normal ?_
  go_wp2
  go_ret
  exact ⟨rfl, (by repeat' (first | with_reducible exact K.Ext.refl _ | with_reducible assumption | with_reducible refine K.Ext.drew ?_ | with_reducible refine K.Ext.alloc ?_ _ | with_reducible refine K.Ext.setCell ?_ ?_ _ | with_reducible refine K.Ext.trans ?_ (by with_reducible assumption) | (dsimp only; omega) | omega | exact K.Ext.refl _ | assumption | apply K.Ext.drew | refine K.Ext.alloc ?_ _ | refine K.Ext.setCell ?_ ?_ _ | (simp; done) | (simp; omega) | refine K.Ext.trans ?_ (by assumption)))⟩
set_option maxRecDepth 100000 in
set_option maxHeartbeats 3200000 in
theorem formulaText_any (F : Z.Fm) {lo hi : Nat} {p : Value} (w : World) (d0 : 1000 ≤ F.dg) (d1 : F.dg ≤ 9999) (t0 : -1000000 ≤ F.tn) (t1 : F.tn ≤ 1000000) (hl : F.pw.length = F.nm.size) (hn : F.nm.size ≤ 7)
    (hp : ∀ k, k < F.pw.length → -1000000 ≤ F.pw.getD k 0 ∧ F.pw.getD k 0 ≤ 1000000) (h : K.ints w lo hi p F.pw) (hL : LTab w) :
    Calls Tryd.prog 43 #[.agg #[.int .i64 F.dg, .int .i64 F.tn, .string F.nm, p]] w fun e w' => e = .returned (.string (Z.fmText F)) ∧ K.Ext w w' := by
  obtain ⟨o, cap, rfl, hh⟩ := h
  have HT : ∀ w', LTab w' → Calls Tryd.prog 79 #[.agg #[.int .i64 F.dg, .int .i64 F.tn]] w' fun e w'' => e = .returned (.string (Z.figText F.dg F.tn)) ∧ K.Ext w' w'' := fun w' h => figureText_any _ _ w' d0 d1 t0 t1 h
  have HS := Z.figText_size d0 d1 t0 t1
  obtain ⟨S0, hS0⟩ : ∃ S, S = Z.figText F.dg F.tn := ⟨_, rfl⟩
  rw [← hS0] at HT HS
  have HZ := Z.hide hS0
  have HN := Z.hide hl
  have HP := Z.hide hp
  clear hS0 hl hp d0 d1 t0 t1
  go_enter Tryd.func43, Tryd.ntmps43
  go_wp2_with fail
  refine K.call (by with_reducible rfl) (by with_reducible rfl) (HT _ (hL.ext (by repeat' (first | with_reducible exact K.Ext.refl _ | with_reducible assumption | with_reducible refine K.Ext.drew ?_ | with_reducible refine K.Ext.alloc ?_ _ | with_reducible refine K.Ext.setCell ?_ ?_ _ | with_reducible refine K.Ext.trans ?_ (by with_reducible assumption) | (dsimp only; omega) | omega | exact K.Ext.refl _ | assumption | apply K.Ext.drew | refine K.Ext.alloc ?_ _ | refine K.Ext.setCell ?_ ?_ _ | (simp; done) | (simp; omega) | refine K.Ext.trans ?_ (by assumption))))) ?_
  rintro e w1 ⟨rfl, f1⟩
  have e1 : K.Ext w w1 := ((K.Ext.refl _).alloc _).trans f1
  have c2 : w1.cell? ⟨w.heap.size, 2, none⟩ = some (.string F.nm) := f1.cell_of (by go_simp)
  have c3 : w1.cell? ⟨w.heap.size, 3, none⟩ = some (.slice o F.pw.length cap) := f1.cell_of (by go_simp)
  have C2 := Z.hide c2
  clear HT f1
  go_wp2_with fail
  clear c2 c3
  go_loopw [3, 12] (fun u i wr => ∃ (k : Nat) (S : ByteArray), k ≤ F.pw.length ∧ u = .string S ∧ i = .int .i64 k ∧ Hid (S = Z.fmTextK F k) ∧ S.size ≤ 26 + 23 * k ∧ Hid (K.Ext w1 wr)) (fun _ i _ => F.pw.length - (intOf i).toNat)
  case atStart => exact ⟨0, S0, Nat.zero_le _, rfl, rfl, HZ, HS, Z.hide (K.Ext.refl _)⟩
  case round =>
    obtain ⟨k, S, hk, rfl, rfl, HK, hs, HX⟩ := hrel
    by_cases hlt : k < F.pw.length
    · have hln : k < F.nm.size := by rw [← HN.out]; exact hlt
      have HW : Hid (K.Ext w wr) := Z.hide (e1.trans HX.out)
      obtain ⟨b, off, rfl, _, _, hc⟩ := hh (by intro h0; simp [h0] at hlt)
      have hck : wr.cell? ⟨b, off + k, none⟩ = some (.int .i64 (F.pw.getD k 0)) := HW.out.cell_of (hc k hlt)
      have hcn : wr.cell? ⟨w.heap.size, 2, none⟩ = some (.string F.nm) := HX.out.cell_of C2.out
      have HL := Z.hide (hL.ext HW.out)
      have HB := Z.hide (HP.out k hlt)
      have i0 : (0 : Int) ≤ (k : Int) := Int.natCast_nonneg k
      have i1 : (k : Int) < (F.pw.length : Int) := by omega
      have i2 : (k : Int) + 1 ≤ (F.nm.size : Int) := by omega
      have i3 : (0 : Int) ≤ (k : Int) + 1 := by omega
      have qk : IntKind.i64.wrap ((k : Int) + 1) = (k : Int) + 1 := IntWalk.i64_in _ (by omega)
      have hsl := K.cut_str (P := Tryd.prog) (t := 9) (s := F.nm) (i := k) (j := k + 1) (a := (k : Int)) (b := (k : Int) + 1) Tryd.underlying9 rfl (by omega) (by omega) (by omega)
      have m1 : min (k + 1) F.nm.size - k = 1 := by omega
      have o1 : ¬ (9223372036854775807 < S.size + 2) := by omega
      have o1' : ¬ (9223372036854775807 < S.size + (1 + 1)) := by omega
      have HK1 : Hid (Z.fmTextK F (k + 1) = Z.fmTextK F k ++ Z.partText F.nm (F.pw.getD k 0) k) := Z.hide rfl
      have HPS := Z.hide (Z.partText_size hln HB.out.1 HB.out.2)
      have HD : ∀ w', LTab w' → Calls Tryd.prog 80 #[.int .i64 (F.pw.getD k 0)] w' fun e w'' => e = .returned (.string (Z.dec (F.pw.getD k 0))) ∧ K.Ext w' w'' := fun w' h => decimal_any _ w' (by have := HB.out; omega) (by have := HB.out; omega) h
      clear hc hh
      generalize F.pw.getD k 0 = x at *
      have hds := (Z.dec_size (n := x) (by have := HB.out; omega) (by have := HB.out; omega)).2
      cases hx : (x == 1)
      · have HF := Z.hide (Z.partText_other (nm := F.nm) (i := k) hx S)
        obtain ⟨D, hD⟩ : ∃ D, D = Z.dec x := ⟨_, rfl⟩
        rw [← hD] at HD hds HF
        have o2 : ¬ (9223372036854775807 < 1 + D.size) := by omega
        have o3 : ¬ (9223372036854775807 < S.size + 2 + (1 + D.size)) := by omega
        have o3' : ¬ (9223372036854775807 < S.size + (1 + 1) + (1 + D.size)) := by omega
        clear hD
        go_wp2_with fail
        refine K.call (by with_reducible rfl) (by with_reducible rfl) (HD _ HL.out) ?_
        rintro e w2 ⟨rfl, f2⟩
        go_wp2
        go_roundw
        case rel => exact ⟨k + 1, _, by omega, rfl, by go_num, Z.hide (by rw [HF.out, HK1.out, HK.out]), by rw [HF.out, ByteArray.size_append]; have := HPS.out; omega, Z.hide (HX.out.trans f2)⟩
        case measure => simp [intOf]; omega
      · have HF := Z.hide (Z.partText_one (nm := F.nm) (i := k) hx S)
        go_wp2
        go_roundw
        case rel => exact ⟨k + 1, _, by omega, rfl, by go_num, Z.hide (by rw [HF.out, HK1.out, HK.out]), by rw [HF.out, ByteArray.size_append]; have := HPS.out; omega, HX⟩
        case measure => simp [intOf]; omega
    · obtain rfl : k = F.pw.length := by omega
      clear hh
      go_wp2
      go_ret
      exact ⟨by rw [show Z.fmText F = Z.fmTextK F F.pw.length by unfold Z.fmText; rw [HN.out], ← HK.out]; rfl, e1.trans HX.out⟩
set_option maxRecDepth 100000 in
set_option maxHeartbeats 3200000 in
theorem l18Text_any (F : Z.Fm) {lo hi : Nat} {p : Value} (w : World) (d0 : 1000 ≤ F.dg) (d1 : F.dg ≤ 9999) (t0 : -1000000 ≤ F.tn) (t1 : F.tn ≤ 1000000) (hl : F.pw.length = F.nm.size) (hn : F.nm.size ≤ 7)
    (hp : ∀ k, k < F.pw.length → -1000000 ≤ F.pw.getD k 0 ∧ F.pw.getD k 0 ≤ 1000000) (h : K.ints w lo hi p F.pw) :
    Calls Tryd.prog 45 #[.agg #[.int .i64 F.dg, .int .i64 F.tn, .string F.nm, p]] w fun e w' => e = .returned (.string (Z.fmText F)) ∧ K.Ext w w' := by
  obtain ⟨o, cap, rfl, hh⟩ := h
  have HT : ∀ w', Calls Tryd.prog 83 #[.agg #[.int .i64 F.dg, .int .i64 F.tn]] w' fun e w'' => e = .returned (.string (Z.figText F.dg F.tn)) ∧ K.Ext w' w'' := fun w' => l02Text_any _ _ w' d0 d1 t0 t1
  have HS := Z.figText_size d0 d1 t0 t1
  obtain ⟨S0, hS0⟩ : ∃ S, S = Z.figText F.dg F.tn := ⟨_, rfl⟩
  rw [← hS0] at HT HS
  have HZ := Z.hide hS0
  have HN := Z.hide hl
  have HP := Z.hide hp
  clear hS0 hl hp d0 d1 t0 t1
  go_enter Tryd.func45, Tryd.ntmps45
  go_wp2_with fail
  refine K.call (by with_reducible rfl) (by with_reducible rfl) (HT _) ?_
  rintro e w1 ⟨rfl, f1⟩
  have e1 : K.Ext w w1 := ((K.Ext.refl _).alloc _).trans f1
  have c2 : w1.cell? ⟨w.heap.size, 2, none⟩ = some (.string F.nm) := f1.cell_of (by go_simp)
  have c3 : w1.cell? ⟨w.heap.size, 3, none⟩ = some (.slice o F.pw.length cap) := f1.cell_of (by go_simp)
  have C2 := Z.hide c2
  have C3 := Z.hide c3
  clear HT f1
  go_wp2_with fail
  clear c2 c3
  go_loopw [3, 4] (fun u i wr => ∃ (k : Nat) (S : ByteArray), k ≤ F.nm.size ∧ u = .string S ∧ i = .int .i64 k ∧ Hid (S = Z.fmTextK F k) ∧ S.size ≤ 26 + 23 * k ∧ Hid (K.Ext w1 wr)) (fun _ i _ => F.nm.size - (intOf i).toNat)
  case atStart => exact ⟨0, S0, Nat.zero_le _, rfl, rfl, HZ, HS, Z.hide (K.Ext.refl _)⟩
  case round =>
    obtain ⟨k, S, hk, rfl, rfl, HK, hs, HX⟩ := hrel
    have hcn : wr.cell? ⟨w.heap.size, 2, none⟩ = some (.string F.nm) := HX.out.cell_of C2.out
    by_cases hln : k < F.nm.size
    · have hlt : k < F.pw.length := by rw [HN.out]; exact hln
      have HW : Hid (K.Ext w wr) := Z.hide (e1.trans HX.out)
      obtain ⟨b, off, rfl, _, _, hc⟩ := hh (by intro h0; simp [h0] at hlt)
      have hck : wr.cell? ⟨b, off + k, none⟩ = some (.int .i64 (F.pw.getD k 0)) := HW.out.cell_of (hc k hlt)
      have hc3 : wr.cell? ⟨w.heap.size, 3, none⟩ = some (.slice (some ⟨b, off, none⟩) F.pw.length cap) := HX.out.cell_of C3.out
      have HB := Z.hide (HP.out k hlt)
      have i0 : (0 : Int) ≤ (k : Int) := Int.natCast_nonneg k
      have i1 : (k : Int) < (F.pw.length : Int) := by omega
      have i2 : (k : Int) + 1 ≤ (F.nm.size : Int) := by omega
      have i3 : (0 : Int) ≤ (k : Int) + 1 := by omega
      have qk : IntKind.i64.wrap ((k : Int) + 1) = (k : Int) + 1 := IntWalk.i64_in _ (by omega)
      have hsl := K.cut_str (P := Tryd.prog) (t := 9) (s := F.nm) (i := k) (j := k + 1) (a := (k : Int)) (b := (k : Int) + 1) Tryd.underlying9 rfl (by omega) (by omega) (by omega)
      have m1 : min (k + 1) F.nm.size - k = 1 := by omega
      have o1 : ¬ (9223372036854775807 < S.size + 1) := by omega
      have o2 : ¬ (9223372036854775807 < S.size + 1 + 1) := by omega
      have o2' : ¬ (9223372036854775807 < S.size + 2) := by omega
      have o3 : ¬ (9223372036854775807 < S.size + 1 + 1 + 1) := by omega
      have o3' : ¬ (9223372036854775807 < S.size + 3) := by omega
      have o3'' : ¬ (9223372036854775807 < S.size + 2 + 1) := by omega
      have HK1 : Hid (Z.fmTextK F (k + 1) = Z.fmTextK F k ++ Z.partText F.nm (F.pw.getD k 0) k) := Z.hide rfl
      have HPS := Z.hide (Z.partText_size hln HB.out.1 HB.out.2)
      have HD : ∀ w', Calls Tryd.prog 84 #[.int .i64 (F.pw.getD k 0)] w' fun e w'' => e = .returned (.string (Z.dec (F.pw.getD k 0))) ∧ K.Ext w' w'' := fun w' => l01Number_any _ w' (by have := HB.out; omega) (by have := HB.out; omega)
      clear hc hh
      generalize F.pw.getD k 0 = x at *
      have hds := (Z.dec_size (n := x) (by have := HB.out; omega) (by have := HB.out; omega)).2
      cases hx : (x == 1)
      · have HF := Z.hide (Z.partText_other' (nm := F.nm) (i := k) hx S)
        obtain ⟨D, hD⟩ : ∃ D, D = Z.dec x := ⟨_, rfl⟩
        rw [← hD] at HD hds HF
        have o4 : ¬ (9223372036854775807 < S.size + 1 + 1 + 1 + D.size) := by omega
        have o4' : ¬ (9223372036854775807 < S.size + 3 + D.size) := by omega
        clear hD
        go_wp2_with fail
        refine K.call (by with_reducible rfl) (by with_reducible rfl) (HD _) ?_
        rintro e w2 ⟨rfl, f2⟩
        go_wp2
        go_roundw
        case rel => exact ⟨k + 1, _, by omega, rfl, by go_num, Z.hide (by rw [HF.out, HK1.out, HK.out]), by rw [HF.out, ByteArray.size_append]; have := HPS.out; omega, Z.hide (HX.out.trans f2)⟩
        case measure => simp [intOf]; omega
      · have HF := Z.hide (Z.partText_one' (nm := F.nm) (i := k) hx S)
        go_wp2
        go_roundw
        case rel => exact ⟨k + 1, _, by omega, rfl, by go_num, Z.hide (by rw [HF.out, HK1.out, HK.out]), by rw [HF.out, ByteArray.size_append]; have := HPS.out; omega, HX⟩
        case measure => simp [intOf]; omega
    · obtain rfl : k = F.nm.size := by omega
      clear hh
      go_wp2
      go_ret
      exact ⟨by rw [show Z.fmText F = Z.fmTextK F F.nm.size from rfl, ← HK.out]; rfl, e1.trans HX.out⟩
end Go.Proofs.YtbloldnmlhhbhaaDoor
end
section
namespace Go.Z
def FormulaText (F : Fm) : ByteArray × Int := if isFormula F then (fmText F, 0) else (⟨#[]⟩, 1)
/-- what the text of a formula asks -/
theorem valid_parts {F : Fm} (h : isFormula F = true) : (1000 ≤ F.dg ∧ F.dg ≤ 9999) ∧ (-1000000 ≤ F.tn ∧ F.tn ≤ 1000000) ∧ F.pw.length = F.nm.size ∧ F.nm.size ≤ 7 ∧ ∀ k, k < F.pw.length → -1000000 ≤ F.pw.getD k 0 ∧ F.pw.getD k 0 ≤ 1000000 := by
  have hl := isFormula_len h
  have hv := fun k (hk : k < F.nm.size) => valid_at h k hk
  simp only [isFormula, isFig, Bool.and_eq_true, decide_eq_true_eq] at h
  refine ⟨h.1.1.1.1, ?_, hl.1, by omega, fun k hk => ?_⟩
  · have := h.1.1.1.2; omega
  · have := hv k (by omega)
    simp only [okAt, Bool.and_eq_true, decide_eq_true_eq] at this
    omega
end Go.Z
namespace Go.Proofs.YtbloldnmlhhbhaaDoor
open Go.RowKit
set_option maxRecDepth 100000 in
set_option maxHeartbeats 3200000 in
theorem impl_FormulaText (F : Z.Fm) {lo hi : Nat} {p : Value} (w : World) (hm : F.pw.length ≤ 1048576) (hn : F.nm.size ≤ 1048576) (h : K.ints w lo hi p F.pw) (hL : LTab w) :
    Calls Tryd.prog 12 #[.agg #[.int .i64 F.dg, .int .i64 F.tn, .string F.nm, p]] w fun e w' => e = .returned (.tuple #[.string (Z.FormulaText F).1, .int .i64 (Z.FormulaText F).2]) ∧ K.Ext w w' := by
  obtain ⟨o, cap, rfl, _⟩ := id h
  cases hf : Z.isFormula F
  · have HE : Hid (Z.FormulaText F = (⟨#[]⟩, 1)) := Z.hide (by unfold Z.FormulaText; rw [hf]; rfl)
    go_enter Tryd.func12, Tryd.ntmps12
    go_wp2_with fail
    refine K.call (by with_reducible rfl) (by with_reducible rfl) (impl_IsFormula F _ hm hn (h.ext (by repeat' (first | with_reducible exact K.Ext.refl _ | with_reducible assumption | with_reducible refine K.Ext.drew ?_ | with_reducible refine K.Ext.alloc ?_ _ | with_reducible refine K.Ext.setCell ?_ ?_ _ | with_reducible refine K.Ext.trans ?_ (by with_reducible assumption) | (dsimp only; omega) | omega | exact K.Ext.refl _ | assumption | apply K.Ext.drew | refine K.Ext.alloc ?_ _ | refine K.Ext.setCell ?_ ?_ _ | (simp; done) | (simp; omega) | refine K.Ext.trans ?_ (by assumption))))) ?_
    rintro e w1 ⟨rfl, f1⟩
    go_wp2
    go_ret2
    exact ⟨by rw [HE.out]; rfl, ((K.Ext.refl _).alloc _).trans f1⟩
  · have HE : Hid (Z.FormulaText F = (Z.fmText F, 0)) := Z.hide (by unfold Z.FormulaText; rw [hf]; rfl)
    have HV := Z.hide (Z.valid_parts hf)
    go_enter Tryd.func12, Tryd.ntmps12
    go_wp2_with fail
    refine K.call (by with_reducible rfl) (by with_reducible rfl) (impl_IsFormula F _ hm hn (h.ext (by repeat' (first | with_reducible exact K.Ext.refl _ | with_reducible assumption | with_reducible refine K.Ext.drew ?_ | with_reducible refine K.Ext.alloc ?_ _ | with_reducible refine K.Ext.setCell ?_ ?_ _ | with_reducible refine K.Ext.trans ?_ (by with_reducible assumption) | (dsimp only; omega) | omega | exact K.Ext.refl _ | assumption | apply K.Ext.drew | refine K.Ext.alloc ?_ _ | refine K.Ext.setCell ?_ ?_ _ | (simp; done) | (simp; omega) | refine K.Ext.trans ?_ (by assumption))))) ?_
    rintro e w1 ⟨rfl, f1⟩
    have e1 : K.Ext w w1 := ((K.Ext.refl _).alloc _).trans f1
    obtain ⟨c0, c1, c2, c3⟩ := K.c4 f1 w.heap.size (.int .i64 F.dg) (.int .i64 F.tn) (.string F.nm) (.slice o F.pw.length cap) ⟨by go_simp, by go_simp, by go_simp, by go_simp⟩
    go_wp2_with fail
    refine K.call (by with_reducible rfl) (by with_reducible rfl) (formulaText_any F _ HV.out.1.1 HV.out.1.2 HV.out.2.1.1 HV.out.2.1.2 HV.out.2.2.1 HV.out.2.2.2.1 HV.out.2.2.2.2 (h.ext e1) (hL.ext e1)) ?_
    rintro e w2 ⟨rfl, f2⟩
    go_wp2
    go_ret2
    exact ⟨by rw [HE.out]; rfl, e1.trans f2⟩
set_option maxRecDepth 100000 in
set_option maxHeartbeats 3200000 in
theorem spec_FormulaText (F : Z.Fm) {lo hi : Nat} {p : Value} (w : World) (hm : F.pw.length ≤ 1048576) (hn : F.nm.size ≤ 1048576) (h : K.ints w lo hi p F.pw) :
    Calls Tryd.prog 13 #[.agg #[.int .i64 F.dg, .int .i64 F.tn, .string F.nm, p]] w fun e w' => e = .returned (.tuple #[.string (Z.FormulaText F).1, .int .i64 (Z.FormulaText F).2]) ∧ K.Ext w w' := by
  obtain ⟨o, cap, rfl, _⟩ := id h
  cases hf : Z.isFormula F
  · have HE : Hid (Z.FormulaText F = (⟨#[]⟩, 1)) := Z.hide (by unfold Z.FormulaText; rw [hf]; rfl)
    go_enter Tryd.func13, Tryd.ntmps13
    go_wp2_with fail
    refine K.call (by with_reducible rfl) (by with_reducible rfl) (spec_IsFormula F _ hm hn (h.ext (by repeat' (first | with_reducible exact K.Ext.refl _ | with_reducible assumption | with_reducible refine K.Ext.drew ?_ | with_reducible refine K.Ext.alloc ?_ _ | with_reducible refine K.Ext.setCell ?_ ?_ _ | with_reducible refine K.Ext.trans ?_ (by with_reducible assumption) | (dsimp only; omega) | omega | exact K.Ext.refl _ | assumption | apply K.Ext.drew | refine K.Ext.alloc ?_ _ | refine K.Ext.setCell ?_ ?_ _ | (simp; done) | (simp; omega) | refine K.Ext.trans ?_ (by assumption))))) ?_
    rintro e w1 ⟨rfl, f1⟩
    go_wp2
    go_ret2
    exact ⟨by rw [HE.out]; rfl, ((K.Ext.refl _).alloc _).trans f1⟩
  · have HE : Hid (Z.FormulaText F = (Z.fmText F, 0)) := Z.hide (by unfold Z.FormulaText; rw [hf]; rfl)
    have HV := Z.hide (Z.valid_parts hf)
    go_enter Tryd.func13, Tryd.ntmps13
    go_wp2_with fail
    refine K.call (by with_reducible rfl) (by with_reducible rfl) (spec_IsFormula F _ hm hn (h.ext (by repeat' (first | with_reducible exact K.Ext.refl _ | with_reducible assumption | with_reducible refine K.Ext.drew ?_ | with_reducible refine K.Ext.alloc ?_ _ | with_reducible refine K.Ext.setCell ?_ ?_ _ | with_reducible refine K.Ext.trans ?_ (by with_reducible assumption) | (dsimp only; omega) | omega | exact K.Ext.refl _ | assumption | apply K.Ext.drew | refine K.Ext.alloc ?_ _ | refine K.Ext.setCell ?_ ?_ _ | (simp; done) | (simp; omega) | refine K.Ext.trans ?_ (by assumption))))) ?_
    rintro e w1 ⟨rfl, f1⟩
    have e1 : K.Ext w w1 := ((K.Ext.refl _).alloc _).trans f1
    obtain ⟨c0, c1, c2, c3⟩ := K.c4 f1 w.heap.size (.int .i64 F.dg) (.int .i64 F.tn) (.string F.nm) (.slice o F.pw.length cap) ⟨by go_simp, by go_simp, by go_simp, by go_simp⟩
    go_wp2_with fail
    refine K.call (by with_reducible rfl) (by with_reducible rfl) (l18Text_any F _ HV.out.1.1 HV.out.1.2 HV.out.2.1.1 HV.out.2.1.2 HV.out.2.2.1 HV.out.2.2.2.1 HV.out.2.2.2.2 (h.ext e1)) ?_
    rintro e w2 ⟨rfl, f2⟩
    go_wp2
    go_ret2
    exact ⟨by rw [HE.out]; rfl, e1.trans f2⟩
end Go.Proofs.YtbloldnmlhhbhaaDoor
end
section
namespace Go.Z
/-- the program's reading of a number -/
def number (s : ByteArray) : Int × Bool :=
  match Lib.parseIntB 64 s.data.toList with
  | .ok v => if dec v = s then (v, true) else (0, false)
  | _ => (0, false)
theorem number_dec {n : Int} (h : -9223372036854775808 ≤ n) (h' : n ≤ 9223372036854775807) : number (dec n) = (n, true) := by
  unfold number
  rw [show (dec n).data.toList = Lib.itoa n by unfold dec; rw [str_bytes], parse_itoa h h']
  simp
theorem digit_yes {b : UInt8} (h : 48 ≤ b.toNat) (h' : b.toNat ≤ 57) : Lib.digitVal b = some (b.toNat - 48) := by unfold Lib.digitVal; rw [if_pos ⟨h, h'⟩]
theorem digit_no {b : UInt8} (h : b.toNat < 48 ∨ 57 < b.toNat) : Lib.digitVal b = none := by unfold Lib.digitVal; rw [if_neg (by omega)]
theorem value_bad {l : List UInt8} {k : Nat} {b : UInt8} (hk : l[k]? = some b) (hb : Lib.digitVal b = none) : value l = (0, false) := by
  unfold value
  split
  · cases hd : Lib.decFrom 0 l with
    | none => rfl
    | some u =>
      obtain ⟨d, hd'⟩ := Lib.digit_of_decFrom l 0 u hd k b hk
      rw [hb] at hd'; cases hd'
  · rfl
theorem value_good {l : List UInt8} {u : Nat} (h1 : 1 ≤ l.length) (h2 : l.length ≤ 13) (hd : Lib.decFrom 0 l = some u) : value l = ((u : Int), decide (str (Lib.decDigits u) = str l)) := by
  unfold value
  rw [if_pos ⟨h1, h2⟩, hd]
  simp only
  congr 1
  rw [decide_eq_decide]
  exact ⟨fun h => by rw [h], str_inj⟩
theorem value_len {l : List UInt8} (h : l.length < 1 ∨ 13 < l.length) : value l = (0, false) := by unfold value; rw [if_neg (by omega)]
theorem dec_step {l : List UInt8} {k u : Nat} {b : UInt8} (h : Lib.decFrom 0 (l.take k) = some u) (hk : l[k]? = some b) (h0 : 48 ≤ b.toNat) (h1 : b.toNat ≤ 57) (hl : l.length ≤ 13) :
    Lib.decFrom 0 (l.take (k + 1)) = some (u * 10 + (b.toNat - 48)) ∧ u * 10 + (b.toNat - 48) < 10000000000000 := by
  have := Lib.decFrom_take l k 0 u b _ h hk (digit_yes h0 h1)
  refine ⟨this, ?_⟩
  have hb := Lib.decFrom_lt _ 0 _ this
  have h13 : 10 ^ (l.take (k + 1)).length ≤ 10 ^ 13 := Nat.pow_le_pow_right (by decide) (by simp; omega)
  omega
theorem signed_minus {s : ByteArray} (h : 0 < s.size) (hb : (s[0]'h).toNat = 45) : signed s.data.toList = (-(value (s.extract 1 s.size).data.toList).1, (value (s.extract 1 s.size).data.toList).2 && decide (0 < (value (s.extract 1 s.size).data.toList).1)) := by
  have hl := bytes_length s
  have hg : s.data.toList[0]? = some (s[0]'h) := by rw [Array.getElem?_toList, Array.getElem?_eq_getElem (show 0 < s.data.size from h)]; rfl
  have e45 : s[0]'h = 45 := UInt8.toNat_inj.1 hb
  unfold signed
  have ht : (s.extract 1 s.size).data.toList = s.data.toList.tail := by
    rw [ByteArray.data_extract]
    simp only [Array.toList_extract, List.extract, List.drop_one]
    exact List.take_of_length_le (by rw [List.length_tail, hl]; exact Nat.le_refl _)
  rw [if_pos (by rw [List.head?_eq_getElem?, hg, e45]), ht]
theorem signed_plain {s : ByteArray} (h : ∀ h : 0 < s.size, (s[0]'h).toNat ≠ 45) : signed s.data.toList = value s.data.toList := by
  unfold signed
  rw [if_neg]
  intro e
  rw [List.head?_eq_getElem?] at e
  have h0 : 0 < s.size := by
    rw [← bytes_length s]
    exact List.length_pos_iff.2 (fun x => by rw [x] at e; cases e)
  have hg : s.data.toList[0]? = some (s[0]'h0) := by rw [Array.getElem?_toList, Array.getElem?_eq_getElem (show 0 < s.data.size from h0)]; rfl
  rw [hg] at e
  exact h h0 (by rw [Option.some.inj e]; rfl)
/-- what both readings of a number say -/
structure Num (l : List UInt8) (n : Int) (ok : Bool) : Prop where
  lo : -9223372036854775808 ≤ n
  hi : n ≤ 9223372036854775807
  sound : ok = true → Lib.itoa n = l
  whole : ∀ m : Int, -1000000 ≤ m → m ≤ 1000000 → Lib.itoa m = l → n = m ∧ ok = true
end Go.Z
namespace Go.K
theorem ext_bytes {w w' : World} {t : TypeId} (h : w' = w ∨ ∃ l, w' = Lib.bytesWorld w t l) : Ext w w' := by
  rcases h with rfl | ⟨l, rfl⟩
  · exact Ext.refl _
  · exact Joins.below_bytesWorld _ _ _ _ (Nat.le_refl _)
end Go.K
namespace Go.Proofs.YtbloldnmlhhbhaaDoor
open Go.RowKit
set_option maxRecDepth 100000 in
set_option maxHeartbeats 3200000 in
theorem number_any (s : ByteArray) (w : World) (hs : s.size ≤ 1048576) (hL : LV w) :
    Calls Tryd.prog 72 #[.string s] w fun e w' => e = .returned (.tuple #[.int .i64 (Z.number s).1, .bool (Z.number s).2]) ∧ K.Ext w w' := by
  cases hP : Lib.parseIntB 64 s.data.toList with
  | ok v =>
    have hb := Lib.parseIntB_bounds hP
    have HC := Tryd.strconv_ParseInt_10_at64_ok s (by omega) v hP w
    have HN : Hid (Z.number s = if Z.dec v = s then (v, true) else (0, false)) := Z.hide (by unfold Z.number; rw [hP])
    have HD : ∀ w', LTab w' → Calls Tryd.prog 80 #[.int .i64 v] w' fun e w'' => e = .returned (.string (Z.dec v)) ∧ K.Ext w' w'' := fun w' h => decimal_any v w' (by simp at hb; omega) (by simp at hb; omega) h
    obtain ⟨D, hD⟩ : ∃ D, D = Z.dec v := ⟨_, rfl⟩
    rw [← hD] at HD HN
    clear hD hP hb
    by_cases hq : D = s
    all_goals
      have hb := K.str_beq D s
      simp only [hq, decide_true, decide_false] at hb
      go_enter Tryd.func72, Tryd.ntmps72
      go_wp2_with fail
      refine K.call (by with_reducible rfl) (by with_reducible rfl) HC ?_
      rintro e w1 ⟨rfl, f0⟩
      have f1 := K.ext_bytes f0
      clear f0
      go_wp2_with fail
      refine K.call (by with_reducible rfl) (by with_reducible rfl) (HD _ (hL.t.ext f1)) ?_
      rintro e w2 ⟨rfl, f2⟩
      go_wp2
      go_ret2
      exact ⟨by rw [HN.out]; simp [hq], f1.trans f2⟩
  | range =>
    obtain ⟨ev, hv, hev⟩ := hL.rng
    have HC := Tryd.strconv_ParseInt_10_at64_range s (by omega) hP ev w hv hev
    have HN : Hid (Z.number s = (0, false)) := Z.hide (by unfold Z.number; rw [hP])
    go_enter Tryd.func72, Tryd.ntmps72
    go_wp2_with fail
    refine K.call (by with_reducible rfl) (by with_reducible rfl) HC ?_
    rintro e w1 ⟨N, rfl, _, _, f1⟩
    go_wp2
    go_ret2
    exact ⟨by rw [HN.out]; rfl, f1⟩
  | _ =>
    obtain ⟨ev, hv, hev⟩ := hL.syn
    have HC := Tryd.strconv_ParseInt_10_at64_syntax s (by omega) hP ev w hv hev
    have HN : Hid (Z.number s = (0, false)) := Z.hide (by unfold Z.number; rw [hP])
    go_enter Tryd.func72, Tryd.ntmps72
    go_wp2_with fail
    refine K.call (by with_reducible rfl) (by with_reducible rfl) HC ?_
    rintro e w1 ⟨N, rfl, _, _, f1⟩
    go_wp2
    go_ret2
    exact ⟨by rw [HN.out]; rfl, f1⟩
set_option maxRecDepth 100000 in
set_option maxHeartbeats 3200000 in
theorem l01Value_any (s : ByteArray) (w : World) :
    Calls Tryd.prog 89 #[.string s] w fun e w' => e = .returned (.tuple #[.int .i64 (Z.value s.data.toList).1, .bool (Z.value s.data.toList).2]) ∧ K.Ext w w' := by
  have hsz := Z.bytes_length s
  rcases Nat.lt_or_ge s.size 1 with h1 | h1
  · have HV := Z.hide (Z.value_len (l := s.data.toList) (by omega))
    have t1 : (s.size : Int) < 1 := by omega
    clear hsz
    go_enter Tryd.func89, Tryd.ntmps89
    go_wp2
    go_ret2
    exact ⟨by rw [HV.out]; rfl, K.Ext.refl _⟩
  · rcases Nat.lt_or_ge 13 s.size with h2 | h2
    · have HV := Z.hide (Z.value_len (l := s.data.toList) (by omega))
      have t1 : ¬ ((s.size : Int) < 1) := by omega
      have t2 : (13 : Int) < (s.size : Int) := by omega
      clear hsz
      go_enter Tryd.func89, Tryd.ntmps89
      go_wp2
      go_ret2
      exact ⟨by rw [HV.out]; rfl, K.Ext.refl _⟩
    · have t1 : ¬ ((s.size : Int) < 1) := by omega
      have t2 : ¬ ((13 : Int) < (s.size : Int)) := by omega
      have HS := Z.hide hsz
      clear hsz
      go_enter Tryd.func89, Tryd.ntmps89
      go_wp2
      go_loopw [4, 5] (fun n i wr => ∃ (k : Nat) (U : Int), k ≤ s.size ∧ n = .int .i64 U ∧ i = .int .i64 k ∧ 0 ≤ U ∧ U < 10000000000000 ∧ Hid (Lib.decFrom 0 (s.data.toList.take k) = some U.toNat) ∧ Hid (K.Ext w wr)) (fun _ i _ => s.size - (intOf i).toNat)
      case atStart => exact ⟨0, 0, Nat.zero_le _, rfl, rfl, Int.le_refl _, by decide, Z.hide rfl, Z.hide (K.Ext.refl _)⟩
      case round =>
        obtain ⟨k, U, hk, rfl, rfl, u0, u1, HD, HX⟩ := hrel
        by_cases hlt : k < s.size
        · have hg : s.data.toList[k]? = some (s[k]'hlt) := by rw [Array.getElem?_toList, Array.getElem?_eq_getElem (show k < s.data.size from hlt)]; rfl
          have HG := Z.hide hg
          clear hg
          have i0 : (0 : Int) ≤ (k : Int) := Int.natCast_nonneg k
          have i2 : (k : Int) < (s.size : Int) := by omega
          have hB := (s[k]'hlt).toNat_lt
          have b0 : (0 : Int) ≤ ((s[k]'hlt).toNat : Int) := Int.natCast_nonneg _
          have b1 : ((s[k]'hlt).toNat : Int) ≤ 255 := by omega
          cases a1 : decide (((s[k]'hlt).toNat : Int) < 48)
          · cases a2 : decide ((57 : Int) < ((s[k]'hlt).toNat : Int))
            · have c0 := of_decide_eq_false a1
              have c1 := of_decide_eq_false a2
              have HN := Z.hide (Z.dec_step HD.out HG.out (by omega) (by omega) (by rw [HS.out]; exact h2))
              have n1 : U.toNat * 10 + ((s[k]'hlt).toNat - 48) < 10000000000000 := HN.out.2
              have q1 : IntKind.i64.wrap (10 * U) = 10 * U := IntWalk.i64_in _ (by omega)
              have q2 : IntKind.u8.wrap (((s[k]'hlt).toNat : Int) - 48) = ((s[k]'hlt).toNat : Int) - 48 := IntWalk.u8_in _ (by omega)
              have q2' : IntKind.i64.wrap (((s[k]'hlt).toNat : Int) - 48) = ((s[k]'hlt).toNat : Int) - 48 := IntWalk.i64_in _ (by omega)
              have q3 : IntKind.i64.wrap (10 * U + (((s[k]'hlt).toNat : Int) - 48)) = 10 * U + (((s[k]'hlt).toNat : Int) - 48) := IntWalk.i64_in _ (by omega)
              have qk : IntKind.i64.wrap ((k : Int) + 1) = (k : Int) + 1 := IntWalk.i64_in _ (by omega)
              have hV : (10 * U + (((s[k]'hlt).toNat : Int) - 48)).toNat = U.toNat * 10 + ((s[k]'hlt).toNat - 48) := by omega
              have HV := Z.hide hV
              have v0 : 0 ≤ 10 * U + (((s[k]'hlt).toNat : Int) - 48) := by omega
              have v1 : 10 * U + (((s[k]'hlt).toNat : Int) - 48) < 10000000000000 := by omega
              clear hV n1
              go_wp2
              go_roundw
              case rel => exact ⟨k + 1, _, by omega, rfl, by go_num, v0, v1, Z.hide (by rw [HV.out]; exact HN.out.1), HX⟩
              case measure => simp [intOf]; omega
            · have HV := Z.hide (Z.value_bad HG.out (Z.digit_no (.inr (by have := of_decide_eq_true a2; omega))))
              go_wp2
              go_ret2
              exact ⟨by rw [HV.out]; rfl, HX.out⟩
          · have HV := Z.hide (Z.value_bad HG.out (Z.digit_no (.inl (by have := of_decide_eq_true a1; omega))))
            go_wp2
            go_ret2
            exact ⟨by rw [HV.out]; rfl, HX.out⟩
        · obtain rfl : k = s.size := by omega
          have hd := HD.out
          rw [List.take_of_length_le (by rw [HS.out]; exact Nat.le_refl _)] at hd
          have HV := Z.hide (Z.value_good (by rw [HS.out]; exact h1) (by rw [HS.out]; exact h2) hd)
          have HC := l01Dec_any U.toNat
          have e : ((U.toNat : Nat) : Int) = U := by omega
          rw [e] at HC HV
          have hu : U.toNat < 1000000000000000000 := by omega
          rw [Z.str_list] at HV
          generalize Z.str (Lib.decDigits U.toNat) = D at *
          have hb := K.str_beq D s
          clear hd HD e u0 u1
          by_cases hq : D = s
          all_goals
            simp only [hq, decide_true, decide_false] at hb
            go_wp2_with fail
            refine K.call (by with_reducible rfl) (by with_reducible rfl) (HC _ hu) ?_
            rintro e w2 ⟨rfl, f2⟩
            go_wp2
            go_ret2
            exact ⟨by rw [HV.out]; simp [hq], HX.out.trans f2⟩
set_option maxRecDepth 100000 in
set_option maxHeartbeats 3200000 in
theorem l01Signed_any (s : ByteArray) (w : World) :
    Calls Tryd.prog 52 #[.string s] w fun e w' => e = .returned (.tuple #[.int .i64 (Z.signed s.data.toList).1, .bool (Z.signed s.data.toList).2]) ∧ K.Ext w w' := by
  rcases Nat.eq_zero_or_pos s.size with h0 | h0
  · have HV := Z.hide (Z.signed_plain (s := s) (fun h => absurd h (by omega)))
    have t1 : ¬ ((0 : Int) < (s.size : Int)) := by omega
    clear h0
    go_enter Tryd.func52, Tryd.ntmps52
    go_wp2_with fail
    refine K.call (by with_reducible rfl) (by with_reducible rfl) (l01Value_any s _) ?_
    rintro e w2 ⟨rfl, f2⟩
    go_wp2
    go_ret2
    exact ⟨by rw [HV.out]; rfl, f2⟩
  · have t1 : (0 : Int) < (s.size : Int) := by omega
    by_cases hb : (s[0]'h0).toNat = 45
    · have HV := Z.hide (Z.signed_minus h0 hb)
      have HC := l01Value_any (s.extract 1 s.size)
      have HB := Z.hide (Z.value_bound (s.extract 1 s.size).data.toList)
      have t2 : (((s[0]'h0).toNat : Int) == 45) = true := by rw [hb]; rfl
      have t3 : ((s[0]'h0).toNat : Int) = 45 := by omega
      obtain ⟨T, hT⟩ : ∃ T, T = s.extract 1 s.size := ⟨_, rfl⟩
      have i1 : (1 : Int) ≤ (s.size : Int) := by omega
      generalize Z.value (s.extract 1 s.size).data.toList = v at *
      obtain ⟨x, o⟩ := v
      simp only at HV HC HB
      have q1 : IntKind.i64.wrap (-x) = -x := IntWalk.i64_in _ (by have := HB.out; omega)
      clear hT
      cases o
      all_goals
        go_enter Tryd.func52, Tryd.ntmps52
        go_wp2_with fail
        refine K.call (by with_reducible rfl) (by with_reducible rfl) (HC _) ?_
        rintro e w2 ⟨rfl, f2⟩
        go_wp2
        go_ret2
        exact ⟨by rw [HV.out]; rfl, f2⟩
    · have HV := Z.hide (Z.signed_plain (s := s) (fun h => hb))
      have t2 : (((s[0]'h0).toNat : Int) == 45) = false := by simp; omega
      have t3 : ¬ (((s[0]'h0).toNat : Int) = 45) := by omega
      go_enter Tryd.func52, Tryd.ntmps52
      go_wp2_with fail
      refine K.call (by with_reducible rfl) (by with_reducible rfl) (l01Value_any s _) ?_
      rintro e w2 ⟨rfl, f2⟩
      go_wp2
      go_ret2
      exact ⟨by rw [HV.out]; rfl, f2⟩
end Go.Proofs.YtbloldnmlhhbhaaDoor
end
section
namespace Go.Z
theorem itoa_no {b : UInt8} (n : Int) (h1 : b ≠ 45) (h2 : b.toNat < 48 ∨ 57 < b.toNat) : b ∉ Lib.itoa n := fun hm => by
  rcases itoa_byte n b hm with h | h
  · exact h1 h
  · omega
theorem itoa_ne (n : Int) : Lib.itoa n ≠ [] := by
  rcases int_cases n with ⟨u, rfl⟩ | ⟨u, hu, rfl⟩
  · rw [itoa_nat]; exact decDigits_ne u
  · rw [itoa_neg hu]; simp
theorem len4 {l : List UInt8} (h : l.length = 4) : ∃ a b c d, l = [a, b, c, d] := by
  match l, h with
  | [a, b, c, d], _ => exact ⟨a, b, c, d, rfl⟩
theorem fig_bytes {d : Int} (t : Int) (h : 1000 ≤ d) (h' : d ≤ 9999) : ∃ c0 c1 c2 c3 : UInt8, Lib.itoa d = [c0, c1, c2, c3] ∧ figText d t = str ([c0, 46, c1, c2, c3, 101] ++ Lib.itoa t) := by
  have h4 := dec4 h h'
  unfold dec at h4
  rw [str_size] at h4
  obtain ⟨c0, c1, c2, c3, he⟩ := len4 h4
  refine ⟨c0, c1, c2, c3, he, ?_⟩
  have e1 : (str [c0, c1, c2, c3]).extract 0 1 = str [c0] := by unfold str; rw [ByteArray.extract_mk]; rfl
  have e2 : (str [c0, c1, c2, c3]).extract 1 4 = str [c1, c2, c3] := by unfold str; rw [ByteArray.extract_mk]; rfl
  unfold figText dec
  rw [he, e1, e2]
  show (((str [c0] ++ str [46]) ++ str [c1, c2, c3]) ++ str [101]) ++ str (Lib.itoa t) = _
  rw [str_append, str_append, str_append, str_append]
  rfl
theorem replace_one {c : UInt8} {a t : List UInt8} (h : c ∉ a) : Lib.replace (a ++ c :: t) [c] [] 1 = a ++ t := by
  have hc : 1 ≤ Lib.count (a ++ c :: t) [c] := by
    unfold Lib.count Lib.countFrom
    have h1 : (((a.length : Nat) : Int) == -1) = false := by rw [beq_eq_false_iff_ne]; omega
    rw [index_hit t h, h1]
    simp
  unfold Lib.replace
  rw [if_neg (by simp)]
  unfold Lib.replaceNum
  rw [if_neg (by omega), show (1 : Int).toNat = 0 + 1 from rfl, Lib.replaceK_hit _ _ _ _ a.length (index_hit t h)]
  simp [Lib.replaceK]
/-- the program's reading of a figure -/
def readFig (s : ByteArray) : (Int × Int) × Bool :=
  if (Lib.cut s.data.toList [101]).2.2 && (number (str (Lib.replace (Lib.cut s.data.toList [101]).1 [46] [] 1))).2 && (number (str (Lib.cut s.data.toList [101]).2.1)).2 &&
      isFig (number (str (Lib.replace (Lib.cut s.data.toList [101]).1 [46] [] 1))).1 (number (str (Lib.cut s.data.toList [101]).2.1)).1 &&
      decide (figText (number (str (Lib.replace (Lib.cut s.data.toList [101]).1 [46] [] 1))).1 (number (str (Lib.cut s.data.toList [101]).2.1)).1 = s)
  then (((number (str (Lib.replace (Lib.cut s.data.toList [101]).1 [46] [] 1))).1, (number (str (Lib.cut s.data.toList [101]).2.1)).1), true) else ((0, 0), false)
/-- what both readings of a figure say -/
structure FigR (s : ByteArray) (d t : Int) (ok : Bool) : Prop where
  sound : ok = true → isFig d t = true ∧ figText d t = s
  zero : ok = false → d = 0 ∧ t = 0
  whole : ∀ d' t' : Int, isFig d' t' = true → figText d' t' = s → d = d' ∧ t = t' ∧ ok = true
theorem isFig_parts {d t : Int} (h : isFig d t = true) : (1000 ≤ d ∧ d ≤ 9999) ∧ -30 ≤ t ∧ t ≤ 30 := by
  simpa [isFig] using h
theorem readFig_whole {d t : Int} (h : isFig d t = true) : readFig (figText d t) = ((d, t), true) := by
  obtain ⟨⟨h1, h2⟩, h3, h4⟩ := isFig_parts h
  obtain ⟨c0, c1, c2, c3, he, hf⟩ := fig_bytes t h1 h2
  have n101 := itoa_no (b := 101) d (by decide) (by decide)
  have n46 := itoa_no (b := 46) d (by decide) (by decide)
  rw [he] at n101 n46
  simp only [List.mem_cons, List.not_mem_nil, or_false, not_or] at n101 n46
  have hc : Lib.cut (figText d t).data.toList [101] = ([c0, 46, c1, c2, c3], Lib.itoa t, true) := by
    rw [hf, str_bytes]
    exact cut_hit (a := [c0, 46, c1, c2, c3]) (by simp only [List.mem_cons, List.not_mem_nil, or_false, not_or]; exact ⟨n101.1, by decide, n101.2⟩)
  have hr : Lib.replace [c0, 46, c1, c2, c3] [46] [] 1 = [c0, c1, c2, c3] := replace_one (c := 46) (a := [c0]) (t := [c1, c2, c3]) (by simp only [List.mem_cons, List.not_mem_nil, or_false]; exact n46.1)
  have hn : number (str [c0, c1, c2, c3]) = (d, true) := by rw [← he]; exact number_dec (by omega) (by omega)
  have ht : number (str (Lib.itoa t)) = (t, true) := number_dec (by omega) (by omega)
  unfold readFig
  rw [hc]
  simp only [hr, hn, ht, h]
  simp
/-- the reference's reading of a figure -/
def readFigS : List UInt8 → (Int × Int) × Bool
  | l0 :: l1 :: l2 :: l3 :: l4 :: l5 :: r =>
    if l1 = 46 ∧ l5 = 101 ∧ r ≠ [] then
      if (value [l0, l2, l3, l4]).2 && (signed r).2 && isFig (value [l0, l2, l3, l4]).1 (signed r).1 then (((value [l0, l2, l3, l4]).1, (signed r).1), true) else ((0, 0), false)
    else ((0, 0), false)
  | _ => ((0, 0), false)
theorem readFigS_whole {d t : Int} (h : isFig d t = true) : readFigS (figText d t).data.toList = ((d, t), true) := by
  obtain ⟨⟨h1, h2⟩, h3, h4⟩ := isFig_parts h
  obtain ⟨c0, c1, c2, c3, he, hf⟩ := fig_bytes t h1 h2
  rw [hf, str_bytes]
  obtain ⟨u, rfl⟩ : ∃ u : Nat, d = u := ⟨d.toNat, by omega⟩
  have hv : value [c0, c1, c2, c3] = ((u : Int), true) := by rw [← he, itoa_nat]; exact value_digits (by omega)
  have hs : signed (Lib.itoa t) = (t, true) := signed_itoa (by omega) (by omega)
  show readFigS (c0 :: 46 :: c1 :: c2 :: c3 :: 101 :: Lib.itoa t) = _
  simp only [readFigS]
  rw [if_pos ⟨trivial, trivial, itoa_ne t⟩]
  simp only [hv, hs, h]
  simp
def partB (nm : ByteArray) (x : Int) (i : Nat) : List UInt8 := (nm.extract i (i + 1)).data.toList ++ (if x == 1 then [] else 94 :: Lib.itoa x)
theorem partText_bytes (nm : ByteArray) (x : Int) (i : Nat) : (partText nm x i).data.toList = 42 :: partB nm x i := by
  unfold partText partB
  split
  · rw [append_bytes]; simp
  · rw [append_bytes, append_bytes, append_bytes]
    have : (dec x).data.toList = Lib.itoa x := by unfold dec; rw [str_bytes]
    rw [this]; simp
theorem joinB_snoc (c : UInt8) (p : List UInt8) : ∀ {ps : List (List UInt8)}, ps ≠ [] → joinB c (ps ++ [p]) = joinB c ps ++ c :: p
  | [], h => absurd rfl h
  | [q], _ => by simp [joinB]
  | q :: r :: t, _ => by
    have := joinB_snoc c p (ps := r :: t) (by simp)
    simp only [List.cons_append, joinB, List.append_assoc] at this ⊢
    rw [this]
def pieces (F : Fm) (k : Nat) : List (List UInt8) := (figText F.dg F.tn).data.toList :: (List.range k).map fun i => partB F.nm (F.pw.getD i 0) i
theorem fmTextK_bytes (F : Fm) : ∀ k, (fmTextK F k).data.toList = joinB 42 (pieces F k)
  | 0 => rfl
  | k + 1 => by
    have ih := fmTextK_bytes F k
    unfold fmTextK
    rw [append_bytes, ih, partText_bytes]
    unfold pieces
    rw [List.range_succ, List.map_append, List.map_singleton, ← List.cons_append, joinB_snoc _ _ (by simp)]
theorem name_byte {nm : ByteArray} {i : Nat} (h : i < nm.size) : (nm.extract i (i + 1)).data.toList = [nm[i]'h] := by
  rw [ByteArray.data_extract, Array.toList_extract]
  have hl : i < nm.data.toList.length := by rw [bytes_length]; exact h
  simp only [List.extract]
  rw [List.drop_eq_getElem_cons hl, show i + 1 - i = 1 by omega, List.take_succ_cons, List.take_zero, Array.getElem_toList]
  rfl
theorem valid_name {F : Fm} (h : isFormula F = true) {i : Nat} (hi : i < F.nm.size) : 97 ≤ (F.nm[i]'hi).toNat ∧ (F.nm[i]'hi).toNat ≤ 122 := by
  have := valid_at h i hi
  simp only [okAt, Bool.and_eq_true, Bool.not_eq_true', decide_eq_false_iff_not] at this
  have e := bs_get F.nm i hi
  omega
theorem valid_pw {F : Fm} (h : isFormula F = true) {i : Nat} (hi : i < F.nm.size) : -6 ≤ F.pw.getD i 0 ∧ F.pw.getD i 0 ≤ 6 := by
  have := valid_at h i hi
  simp only [okAt, Bool.and_eq_true, decide_eq_true_eq] at this
  omega
theorem fig_no42 {d : Int} (t : Int) (h : 1000 ≤ d) (h' : d ≤ 9999) : (42 : UInt8) ∉ (figText d t).data.toList := by
  obtain ⟨c0, c1, c2, c3, he, hf⟩ := fig_bytes t h h'
  have n := itoa_no (b := 42) d (by decide) (by decide)
  have m := itoa_no (b := 42) t (by decide) (by decide)
  rw [he] at n
  rw [hf, str_bytes]
  simp only [List.mem_cons, List.not_mem_nil, or_false, not_or] at n
  simp only [List.mem_append, List.mem_cons, List.not_mem_nil, or_false, not_or]
  exact ⟨⟨n.1, by decide, n.2.1, n.2.2.1, n.2.2.2, by decide⟩, m⟩
theorem part_no42 {F : Fm} (h : isFormula F = true) {i : Nat} (hi : i < F.nm.size) : (42 : UInt8) ∉ partB F.nm (F.pw.getD i 0) i := by
  have hn := valid_name h hi
  unfold partB
  rw [name_byte hi]
  intro hm
  rcases List.mem_append.1 hm with h1 | h1
  · have : (42 : UInt8) = F.nm[i]'hi := by simpa using h1
    rw [← this] at hn
    simp at hn
  · split at h1
    · cases h1
    · rcases List.mem_cons.1 h1 with h2 | h2
      · simp at h2
      · exact itoa_no _ (by decide) (by decide) h2
theorem fm_split {F : Fm} (h : isFormula F = true) : splitC 42 (fmText F).data.toList = pieces F F.nm.size := by
  unfold fmText
  rw [fmTextK_bytes]
  refine splitC_join (by simp [pieces]) fun p hp => ?_
  unfold pieces at hp
  rcases List.mem_cons.1 hp with rfl | hp
  · obtain ⟨⟨h1, h2⟩, _⟩ := isFig_parts (show isFig F.dg F.tn = true by simp only [isFormula, Bool.and_eq_true] at h; exact h.1.1.1)
    exact fig_no42 _ h1 h2
  · obtain ⟨i, hi, rfl⟩ := List.mem_map.1 hp
    exact part_no42 h (List.mem_range.1 hi)
/-- the program's reading of a letter with its exponent -/
def rdPart (p : List UInt8) : List UInt8 × Int × Bool :=
  if (Lib.cut p [94]).2.2 then ((Lib.cut p [94]).1, (number (str (Lib.cut p [94]).2.1)).1, (number (str (Lib.cut p [94]).2.1)).2) else ((Lib.cut p [94]).1, 1, true)
theorem rdPart_part {F : Fm} (h : isFormula F = true) {i : Nat} (hi : i < F.nm.size) : rdPart (partB F.nm (F.pw.getD i 0) i) = ([F.nm[i]'hi], F.pw.getD i 0, true) := by
  have hn := valid_name h hi
  have hp := valid_pw h hi
  have hne : (94 : UInt8) ∉ [F.nm[i]'hi] := by
    intro hm
    have : (94 : UInt8) = F.nm[i]'hi := by simpa using hm
    rw [← this] at hn; simp at hn
  unfold partB
  rw [name_byte hi]
  split
  · rename_i hx
    unfold rdPart
    rw [List.append_nil, cut_miss hne, beq_iff_eq.1 hx]
    rfl
  · unfold rdPart
    rw [cut_hit hne]
    simp only [if_true]
    rw [show number (str (Lib.itoa (F.pw.getD i 0))) = (F.pw.getD i 0, true) from number_dec (by omega) (by omega)]
/-- the reference's reading of a letter with its exponent -/
def rdPartS (p : List UInt8) : List UInt8 × Int := ((splitC 94 p).headD [], if (splitC 94 p).length = 2 then (signed ((splitC 94 p).getD 1 [])).1 else 1)
theorem rdPartS_part {F : Fm} (h : isFormula F = true) {i : Nat} (hi : i < F.nm.size) : rdPartS (partB F.nm (F.pw.getD i 0) i) = ([F.nm[i]'hi], F.pw.getD i 0) := by
  have hn := valid_name h hi
  have hp := valid_pw h hi
  have hne : (94 : UInt8) ∉ [F.nm[i]'hi] := by
    intro hm
    have : (94 : UInt8) = F.nm[i]'hi := by simpa using hm
    rw [← this] at hn; simp at hn
  unfold partB
  rw [name_byte hi]
  split
  · rename_i hx
    unfold rdPartS
    rw [List.append_nil, splitC_piece hne, beq_iff_eq.1 hx]
    rfl
  · unfold rdPartS
    rw [splitC_cut _ hne, splitC_piece (itoa_no _ (by decide) (by decide))]
    simp only [List.headD_cons, List.length_cons, List.length_nil, List.getD_cons_succ, List.getD_cons_zero]
    simp only [if_true]
    rw [signed_itoa (by omega) (by omega)]
/-- what both readings of a formula say -/
structure FmR (s : ByteArray) (F : Fm) (ok : Bool) : Prop where
  sound : ok = true → isFormula F = true ∧ fmText F = s
  zero : ok = false → F = zeroFm
  whole : ∀ G, isFormula G = true → fmText G = s → F = G ∧ ok = true
theorem FmR.same {s : ByteArray} {F G : Fm} {a b : Bool} (h : FmR s F a) (k : FmR s G b) : F = G ∧ a = b := by
  cases a <;> cases b
  · exact ⟨by rw [h.zero rfl, k.zero rfl], rfl⟩
  · obtain ⟨k1, k2⟩ := k.sound rfl
    have := (h.whole G k1 k2).2
    cases this
  · obtain ⟨k1, k2⟩ := h.sound rfl
    have := (k.whole F k1 k2).2
    cases this
  · obtain ⟨k1, k2⟩ := k.sound rfl
    exact ⟨(h.whole G k1 k2).1, rfl⟩
theorem FmR.good {s : ByteArray} {F : Fm} (h1 : isFormula F = true) (h2 : fmText F = s) (h : ∀ G, isFormula G = true → fmText G = s → F = G) : FmR s F true :=
  ⟨fun _ => ⟨h1, h2⟩, fun h => (by cases h), fun G a b => ⟨h G a b, rfl⟩⟩
theorem FmR.bad {s : ByteArray} (h : ∀ G, isFormula G = true → fmText G ≠ s) : FmR s zeroFm false :=
  ⟨fun h => (by cases h), fun _ => rfl, fun G a b => absurd b (h G a)⟩
end Go.Z
end
section
namespace Go.Z
theorem splitC_mem_len (c : UInt8) : ∀ (l : List UInt8), ∀ p ∈ splitC c l, p.length ≤ l.length
  | [], p, h => by simp [splitC] at h; subst h; simp
  | b :: l, p, h => by
    have ih := splitC_mem_len c l
    unfold splitC at h
    split at h
    · rcases List.mem_cons.1 h with rfl | h
      · simp
      · have := ih p h; simp; omega
    · split at h
      · obtain rfl := List.mem_singleton.1 h; simp
      · rename_i q r hq
        rw [hq] at ih
        rcases List.mem_cons.1 h with rfl | h
        · have := ih q (by simp); simp; omega
        · have := ih p (by simp [h]); simp; omega
/-- what is known of the letters and exponents read so far -/
def RdI (s : ByteArray) (d t : Int) (m k : Nat) (N : List UInt8) (P : List Int) : Prop :=
  ∀ G, isFormula G = true → fmText G = s → (d = G.dg ∧ t = G.tn) ∧ (G.nm.size = m ∧ G.pw.length = m) ∧ N = G.nm.data.toList.take k ∧ P = G.pw.take k
theorem rd_split {s : ByteArray} {G : Fm} (h : isFormula G = true) (ht : fmText G = s) {p0 : List UInt8} {ps : List (List UInt8)} (hs : splitC 42 s.data.toList = p0 :: ps) :
    p0 = (figText G.dg G.tn).data.toList ∧ ps.length = G.nm.size ∧ ∀ k (hk : k < ps.length), ps[k] = partB G.nm (G.pw.getD k 0) k := by
  have e := fm_split h
  rw [ht, hs] at e
  unfold pieces at e
  obtain ⟨e1, e2⟩ := List.cons.inj e
  subst e2
  exact ⟨e1, by simp, fun k hk => by simp⟩
theorem rd_fig {s : ByteArray} {p0 : List UInt8} {ps : List (List UInt8)} (hs : splitC 42 s.data.toList = p0 :: ps) {G : Fm} (h : isFormula G = true) (ht : fmText G = s) : readFig (str p0) = ((G.dg, G.tn), true) := by
  obtain ⟨e1, _, _⟩ := rd_split h ht hs
  rw [e1, str_list]
  exact readFig_whole (by simp only [isFormula, Bool.and_eq_true] at h; exact h.1.1.1)
theorem RdI.start {s : ByteArray} {p0 : List UInt8} {ps : List (List UInt8)} (hs : splitC 42 s.data.toList = p0 :: ps) {d t : Int} {b : Bool} (hf : readFig (str p0) = ((d, t), b)) : RdI s d t ps.length 0 [] [] := fun G h ht => by
  have e := rd_fig hs h ht
  rw [hf] at e
  obtain ⟨e1, e2⟩ := Prod.mk.inj e
  obtain ⟨e3, e4⟩ := Prod.mk.inj e1
  have hl := (isFormula_len h).1
  have hm := (rd_split h ht hs).2.1
  exact ⟨⟨e3, e4⟩, ⟨hm.symm, by omega⟩, by simp, by simp⟩
theorem RdI.fail {s : ByteArray} {p0 : List UInt8} {ps : List (List UInt8)} (hs : splitC 42 s.data.toList = p0 :: ps) {x : Int × Int} (hf : readFig (str p0) = (x, false)) : FmR s zeroFm false := FmR.bad fun G h ht => by
  have e := rd_fig hs h ht
  rw [hf] at e
  cases (Prod.mk.inj e).2
theorem rd_part {s : ByteArray} {p0 : List UInt8} {ps : List (List UInt8)} (hs : splitC 42 s.data.toList = p0 :: ps) {k : Nat} (hk : k < ps.length) {G : Fm} (h : isFormula G = true) (ht : fmText G = s) : ∃ hi : k < G.nm.size, rdPart ps[k] = ([G.nm[k]'hi], G.pw.getD k 0, true) := by
  obtain ⟨_, e1, e2⟩ := rd_split h ht hs
  exact ⟨by omega, by rw [e2 k hk]; exact rdPart_part h (by omega)⟩
theorem RdI.bad {s : ByteArray} {p0 : List UInt8} {ps : List (List UInt8)} (hs : splitC 42 s.data.toList = p0 :: ps) {k : Nat} (hk : k < ps.length) (hb : (rdPart ps[k]).2.2 = false ∨ (rdPart ps[k]).1.length ≠ 1) : FmR s zeroFm false := FmR.bad fun G h ht => by
  obtain ⟨_, e⟩ := rd_part hs hk h ht
  rw [e] at hb
  simp at hb
theorem take_snoc {α : Type} {l : List α} {k : Nat} {x : α} (h : l[k]? = some x) : l.take (k + 1) = l.take k ++ [x] := by
  obtain ⟨hk, rfl⟩ := List.getElem?_eq_some_iff.1 h
  exact List.take_succ_eq_append_getElem hk
theorem RdI.next {s : ByteArray} {p0 : List UInt8} {ps : List (List UInt8)} (hs : splitC 42 s.data.toList = p0 :: ps) {d t : Int} {m k : Nat} {N : List UInt8} {P : List Int} (hI : RdI s d t m k N P) (hk : k < ps.length) {A : List UInt8} {n : Int} {b : Bool} (hp : rdPart ps[k] = (A, n, b)) :
    RdI s d t m (k + 1) (N ++ A) (P ++ [n]) := fun G h ht => by
  obtain ⟨h1, h2, h3, h4⟩ := hI G h ht
  obtain ⟨hi, e⟩ := rd_part hs hk h ht
  rw [hp] at e
  obtain ⟨e1, e2⟩ := Prod.mk.inj e
  obtain ⟨e3, _⟩ := Prod.mk.inj e2
  refine ⟨h1, h2, ?_, ?_⟩
  · rw [h3, e1, take_snoc (x := G.nm[k]'hi)]
    rw [Array.getElem?_toList, Array.getElem?_eq_getElem (show k < G.nm.data.size from hi)]; rfl
  · rw [h4, e3, take_snoc (x := G.pw.getD k 0)]
    have hk' : k < G.pw.length := by omega
    rw [List.getD_eq_getElem?_getD, List.getElem?_eq_getElem hk']; rfl
theorem RdI.done {s : ByteArray} {d t : Int} {m : Nat} {N : ByteArray} {P : List Int} (hI : RdI s d t m m N.data.toList P) (h1 : isFormula ⟨d, t, N, P⟩ = true) (h2 : fmText ⟨d, t, N, P⟩ = s) : FmR s ⟨d, t, N, P⟩ true := FmR.good h1 h2 fun G h ht => by
  obtain ⟨⟨rfl, rfl⟩, ⟨h3, h4⟩, h5, h6⟩ := hI G h ht
  rw [List.take_of_length_le (by rw [bytes_length, h3]; exact Nat.le_refl _)] at h5
  rw [List.take_of_length_le (by omega)] at h6
  have e : N = G.nm := by rw [← str_list N, h5, str_list]
  rw [e, h6]
theorem RdI.none {s : ByteArray} {d t : Int} {m : Nat} {N : ByteArray} {P : List Int} (hI : RdI s d t m m N.data.toList P) (hb : isFormula ⟨d, t, N, P⟩ = false ∨ fmText ⟨d, t, N, P⟩ ≠ s) : FmR s zeroFm false := FmR.bad fun G h ht => by
  obtain ⟨⟨rfl, rfl⟩, ⟨h3, h4⟩, h5, h6⟩ := hI G h ht
  rw [List.take_of_length_le (by rw [bytes_length, h3]; exact Nat.le_refl _)] at h5
  rw [List.take_of_length_le (by omega)] at h6
  have e : N = G.nm := by rw [← str_list N, h5, str_list]
  rw [e, h6] at hb
  rcases hb with hb | hb
  · rw [h] at hb; cases hb
  · exact hb ht
/-- the reference's pieces -/
theorem rdS_part {s : ByteArray} {p0 : List UInt8} {ps : List (List UInt8)} (hs : splitC 42 s.data.toList = p0 :: ps) {k : Nat} (hk : k < ps.length) {G : Fm} (h : isFormula G = true) (ht : fmText G = s) : ∃ hi : k < G.nm.size, rdPartS ps[k] = ([G.nm[k]'hi], G.pw.getD k 0) := by
  obtain ⟨_, e1, e2⟩ := rd_split h ht hs
  exact ⟨by omega, by rw [e2 k hk]; exact rdPartS_part h (by omega)⟩
theorem RdI.nextS {s : ByteArray} {p0 : List UInt8} {ps : List (List UInt8)} (hs : splitC 42 s.data.toList = p0 :: ps) {d t : Int} {m k : Nat} {N : List UInt8} {P : List Int} (hI : RdI s d t m k N P) (hk : k < ps.length) {A : List UInt8} {n : Int} (hp : rdPartS ps[k] = (A, n)) :
    RdI s d t m (k + 1) (N ++ A) (P ++ [n]) := fun G h ht => by
  obtain ⟨h1, h2, h3, h4⟩ := hI G h ht
  obtain ⟨hi, e⟩ := rdS_part hs hk h ht
  rw [hp] at e
  obtain ⟨e1, e3⟩ := Prod.mk.inj e
  refine ⟨h1, h2, ?_, ?_⟩
  · rw [h3, e1, take_snoc (x := G.nm[k]'hi)]
    rw [Array.getElem?_toList, Array.getElem?_eq_getElem (show k < G.nm.data.size from hi)]; rfl
  · rw [h4, e3, take_snoc (x := G.pw.getD k 0)]
    have hk' : k < G.pw.length := by omega
    rw [List.getD_eq_getElem?_getD, List.getElem?_eq_getElem hk']; rfl
theorem rdS_fig {s : ByteArray} {p0 : List UInt8} {ps : List (List UInt8)} (hs : splitC 42 s.data.toList = p0 :: ps) {G : Fm} (h : isFormula G = true) (ht : fmText G = s) : readFigS p0 = ((G.dg, G.tn), true) := by
  obtain ⟨e1, _, _⟩ := rd_split h ht hs
  rw [e1]
  exact readFigS_whole (by simp only [isFormula, Bool.and_eq_true] at h; exact h.1.1.1)
theorem RdI.startS {s : ByteArray} {p0 : List UInt8} {ps : List (List UInt8)} (hs : splitC 42 s.data.toList = p0 :: ps) {d t : Int} {b : Bool} (hf : readFigS p0 = ((d, t), b)) : RdI s d t ps.length 0 [] [] := fun G h ht => by
  have e := rdS_fig hs h ht
  rw [hf] at e
  obtain ⟨e1, e2⟩ := Prod.mk.inj e
  obtain ⟨e3, e4⟩ := Prod.mk.inj e1
  have hl := (isFormula_len h).1
  have hm := (rd_split h ht hs).2.1
  exact ⟨⟨e3, e4⟩, ⟨hm.symm, by omega⟩, by simp, by simp⟩
theorem RdI.failS {s : ByteArray} {p0 : List UInt8} {ps : List (List UInt8)} (hs : splitC 42 s.data.toList = p0 :: ps) {x : Int × Int} (hf : readFigS p0 = (x, false)) : FmR s zeroFm false := FmR.bad fun G h ht => by
  have e := rdS_fig hs h ht
  rw [hf] at e
  cases (Prod.mk.inj e).2
end Go.Z
end
section
namespace Go.Z
/-- the code of a reading -/
def okCode : Bool → Int
  | true => 0
  | false => 6
theorem cut_len (l : List UInt8) (c : UInt8) : (Lib.cut l [c]).1.length ≤ l.length ∧ (Lib.cut l [c]).2.1.length ≤ l.length := by
  rcases cut_at c l with h | ⟨a, t, rfl, h⟩
  · rw [cut_miss h]; simp
  · rw [cut_hit h]; simp; omega
theorem replace_len (l : List UInt8) (c : UInt8) : (Lib.replace l [c] [] 1).length ≤ l.length := by
  rcases cut_at c l with h | ⟨a, t, rfl, h⟩
  · have h0 : Lib.count l [c] = 0 := by
      unfold Lib.count Lib.countFrom
      rw [index_miss h]; rfl
    unfold Lib.replace
    rw [if_neg (by simp)]
    unfold Lib.replaceNum
    rw [h0, if_pos (.inr (by decide))]
    simp [Lib.replaceK]
  · rw [replace_one h]; simp
end Go.Z
namespace Go.Proofs.YtbloldnmlhhbhaaDoor
open Go.RowKit
theorem cut_any (s : ByteArray) (c : UInt8) (w : World) (hs : s.size ≤ 1048576) (hL : LV w) :
    Calls Tryd.prog 88 #[.string s, .string ⟨#[c]⟩] w fun e w' => e = .returned (.tuple #[.string (Z.str (Lib.cut s.data.toList [c]).1), .string (Z.str (Lib.cut s.data.toList [c]).2.1), .bool (Lib.cut s.data.toList [c]).2.2]) ∧ K.Ext w w' := by
  obtain ⟨m, hm⟩ := hL.maxl
  exact (Tryd.strings_Cut s ⟨#[c]⟩ m w (by omega) hm).mono fun e w' ⟨he, n, hw⟩ => ⟨he, by rw [hw]; exact (K.Ext.refl w).drewN n⟩
theorem replace_any (s : ByteArray) (w : World) (hs : s.size ≤ 1048576) (hL : LV w) :
    Calls Tryd.prog 104 #[.string s, .string ⟨#[46]⟩, .string ⟨#[]⟩, .int .i64 1] w fun e w' => e = .returned (.string (Z.str (Lib.replace s.data.toList [46] [] 1))) ∧ K.Ext w w' := by
  obtain ⟨m, hm⟩ := hL.maxl
  exact (Tryd.strings_Replace s ⟨#[46]⟩ ⟨#[]⟩ 1 m w (by omega) hm (by decide) (by show s.size + _ * 0 ≤ _; omega)).mono fun e w' ⟨he, hw⟩ => ⟨he, hw⟩
set_option maxRecDepth 100000 in
set_option maxHeartbeats 6400000 in
theorem readFigure_any (s : ByteArray) (w : World) (hs : s.size ≤ 1048576) (hL : LV w) :
    Calls Tryd.prog 87 #[.string s] w fun e w' => e = .returned (.tuple #[.agg #[.int .i64 (Z.readFig s).1.1, .int .i64 (Z.readFig s).1.2], .bool (Z.readFig s).2]) ∧ K.Ext w w' := by
  have hl := Z.bytes_length s
  have k1 := Z.cut_len s.data.toList 101
  have k2 := Z.replace_len (Lib.cut s.data.toList [101]).1 46
  have HC := fun w' h => cut_any s 101 w' hs h
  have HR := fun w' h => replace_any (Z.str (Lib.cut s.data.toList [101]).1) w' (by rw [Z.str_size]; omega) h
  rw [Z.str_bytes] at HR
  have N1 := fun w' h => number_any (Z.str (Lib.replace (Lib.cut s.data.toList [101]).1 [46] [] 1)) w' (by rw [Z.str_size]; omega) h
  have N2 := fun w' h => number_any (Z.str (Lib.cut s.data.toList [101]).2.1) w' (by rw [Z.str_size]; omega) h
  unfold Z.readFig
  generalize Z.number (Z.str (Lib.replace (Lib.cut s.data.toList [101]).1 [46] [] 1)) = a at *
  generalize Z.number (Z.str (Lib.cut s.data.toList [101]).2.1) = b at *
  generalize Z.str (Lib.replace (Lib.cut s.data.toList [101]).1 [46] [] 1) = R at *
  generalize Z.str (Lib.cut s.data.toList [101]).1 = H at *
  generalize Z.str (Lib.cut s.data.toList [101]).2.1 = T at *
  generalize (Lib.cut s.data.toList [101]).2.2 = f at *
  clear k1 k2 hl
  obtain ⟨x, o1⟩ := a
  obtain ⟨y, o2⟩ := b
  simp only at N1 N2 ⊢
  have FT := fun w' (h : LTab w') => fun h1 : Z.isFig x y = true => figureText_any x y w' (Z.isFig_parts h1).1.1 (Z.isFig_parts h1).1.2 (by have := (Z.isFig_parts h1).2; omega) (by have := (Z.isFig_parts h1).2; omega) h
  generalize Z.figText x y = D at *
  have hbq := K.str_beq D s
  obtain ⟨q, hq⟩ : ∃ q, q = decide (D = s) := ⟨_, rfl⟩
  rw [← hq] at hbq ⊢
  clear hq
  obtain ⟨v, hv⟩ : ∃ v, v = Z.isFig x y := ⟨_, rfl⟩
  have IF := impl_IsFigure x y
  rw [← hv] at FT IF ⊢
  clear hv
  have HL := Z.hide hL
  go_enter Tryd.func87, Tryd.ntmps87
  go_wp2_with fail
  refine K.call (by with_reducible rfl) (by with_reducible rfl) (HC _ (hL.ext (by repeat' (first | with_reducible exact K.Ext.refl _ | with_reducible assumption | with_reducible refine K.Ext.drew ?_ | with_reducible refine K.Ext.alloc ?_ _ | with_reducible refine K.Ext.setCell ?_ ?_ _ | with_reducible refine K.Ext.trans ?_ (by with_reducible assumption) | (dsimp only; omega) | omega | exact K.Ext.refl _ | assumption | apply K.Ext.drew | refine K.Ext.alloc ?_ _ | refine K.Ext.setCell ?_ ?_ _ | (simp; done) | (simp; omega) | refine K.Ext.trans ?_ (by assumption))))) ?_
  rintro e w1 ⟨rfl, f1⟩
  have B1 : w1.heap[w.heap.size]? = some (.cells #[.int .i64 0, .int .i64 0] 25) := f1.block (K.block_new rfl)
  have e1 : K.Ext w w1 := ((K.Ext.refl w).alloc _).trans f1
  clear f1
  go_wp2_with fail
  refine K.call (by with_reducible rfl) (by with_reducible rfl) (HR _ (HL.out.ext e1)) ?_
  rintro e w2 ⟨rfl, f2⟩
  have B2 := f2.block B1
  have e2 := e1.trans f2
  clear f2 B1 e1
  go_wp2_with fail
  refine K.call (by with_reducible rfl) (by with_reducible rfl) (N1 _ (HL.out.ext e2)) ?_
  rintro e w3 ⟨rfl, f3⟩
  have B3 := f3.block B2
  have e3 := e2.trans f3
  clear f3 B2 e2
  go_wp2_with fail
  refine K.call (by with_reducible rfl) (by with_reducible rfl) (N2 _ (HL.out.ext e3)) ?_
  rintro e w4 ⟨rfl, f4⟩
  have B4 := f4.block B3
  have e4 := e3.trans f4
  clear f4 B3 e3 HC HR N1 N2 hL
  have z4 : w.heap.size < w4.heap.size := (Array.getElem?_eq_some_iff.1 B4).1
  have r0 : w4.cell? ⟨w.heap.size, 0, none⟩ = some (.int .i64 0) := K.cell_at B4 rfl
  have r1 : w4.cell? ⟨w.heap.size, 1, none⟩ = some (.int .i64 0) := K.cell_at B4 rfl
  have t0 : w4.frozen? ⟨w.heap.size, 0, none⟩ = false := K.thaw_at B4
  have t1 : w4.frozen? ⟨w.heap.size, 1, none⟩ = false := K.thaw_at B4
  cases f
  · go_wp2
    (refine bodyPost_ret (v := .tuple #[.agg #[.int .i64 0, .int .i64 0], .bool false]) (by unfold results; rw [Tryd.results87]; go_simp) rfl ⟨rfl, ?_⟩)
    repeat' (first | with_reducible exact e4 | with_reducible refine K.Ext.alloc ?_ _ | with_reducible refine K.Ext.setCell ?_ (by dsimp only; omega) _)
  · cases o1
    · go_wp2
      (refine bodyPost_ret (v := .tuple #[.agg #[.int .i64 0, .int .i64 0], .bool false]) (by unfold results; rw [Tryd.results87]; go_simp) rfl ⟨rfl, ?_⟩)
      repeat' (first | with_reducible exact e4 | with_reducible refine K.Ext.alloc ?_ _ | with_reducible refine K.Ext.setCell ?_ (by dsimp only; omega) _)
    · cases o2
      · go_wp2
        (refine bodyPost_ret (v := .tuple #[.agg #[.int .i64 0, .int .i64 0], .bool false]) (by unfold results; rw [Tryd.results87]; go_simp) rfl ⟨rfl, ?_⟩)
        repeat' (first | with_reducible exact e4 | with_reducible refine K.Ext.alloc ?_ _ | with_reducible refine K.Ext.setCell ?_ (by dsimp only; omega) _)
      · go_wp2_with fail
        refine K.call (by with_reducible rfl) (by with_reducible rfl) (IF _) ?_
        rintro e w5 ⟨rfl, f5⟩
        have B5 := f5.block (((K.Ext.refl w4).alloc _).block B4)
        have A5 : w5.heap[w4.heap.size]? = some (.cells #[.int .i64 x, .int .i64 y] 25) := f5.block (K.block_new rfl)
        have e5 : K.Ext w w5 := (e4.alloc _).trans f5
        clear f5 B4 e4 r0 r1 t0 t1
        have r0 : w5.cell? ⟨w.heap.size, 0, none⟩ = some (.int .i64 0) := K.cell_at B5 rfl
        have r1 : w5.cell? ⟨w.heap.size, 1, none⟩ = some (.int .i64 0) := K.cell_at B5 rfl
        have t0 : w5.frozen? ⟨w.heap.size, 0, none⟩ = false := K.thaw_at B5
        have t1 : w5.frozen? ⟨w.heap.size, 1, none⟩ = false := K.thaw_at B5
        have p0 : w5.cell? ⟨w4.heap.size, 0, none⟩ = some (.int .i64 x) := K.cell_at A5 rfl
        have p1 : w5.cell? ⟨w4.heap.size, 1, none⟩ = some (.int .i64 y) := K.cell_at A5 rfl
        cases v
        · go_wp2
          (refine bodyPost_ret (v := .tuple #[.agg #[.int .i64 0, .int .i64 0], .bool false]) (by unfold results; rw [Tryd.results87]; go_simp) rfl ⟨rfl, ?_⟩)
          repeat' (first | with_reducible exact e5 | with_reducible refine K.Ext.alloc ?_ _ | with_reducible refine K.Ext.setCell ?_ (by dsimp only; omega) _)
        · go_wp2_with fail
          refine K.call (by with_reducible rfl) (by with_reducible rfl) (FT _ (HL.out.t.ext e5) (by trivial)) ?_
          rintro e w6 ⟨rfl, f6⟩
          have B6 := f6.block B5
          have A6 := f6.block A5
          have e6 : K.Ext w w6 := e5.trans f6
          clear f6 B5 A5 e5 r0 r1 t0 t1 p0 p1
          have r0 : w6.cell? ⟨w.heap.size, 0, none⟩ = some (.int .i64 0) := K.cell_at B6 rfl
          have r1 : w6.cell? ⟨w.heap.size, 1, none⟩ = some (.int .i64 0) := K.cell_at B6 rfl
          have t0 : w6.frozen? ⟨w.heap.size, 0, none⟩ = false := K.thaw_at B6
          have t1 : w6.frozen? ⟨w.heap.size, 1, none⟩ = false := K.thaw_at B6
          have p0 : w6.cell? ⟨w4.heap.size, 0, none⟩ = some (.int .i64 x) := K.cell_at A6 rfl
          have p1 : w6.cell? ⟨w4.heap.size, 1, none⟩ = some (.int .i64 y) := K.cell_at A6 rfl
          cases q
          · go_wp2
            (refine bodyPost_ret (v := .tuple #[.agg #[.int .i64 0, .int .i64 0], .bool false]) (by unfold results; rw [Tryd.results87]; go_simp) rfl ⟨rfl, ?_⟩)
            repeat' (first | with_reducible exact e6 | with_reducible refine K.Ext.alloc ?_ _ | with_reducible refine K.Ext.setCell ?_ (by dsimp only; omega) _)
          · go_wp2
            refine bodyPost_ret (v := .tuple #[.agg #[.int .i64 x, .int .i64 y], .bool true]) (by unfold results; rw [Tryd.results87]; go_simp) rfl ⟨rfl, ?_⟩
            repeat' (first | with_reducible exact e6 | with_reducible refine K.Ext.alloc ?_ _ | with_reducible refine K.Ext.setCell ?_ (by dsimp only; omega) _)
set_option maxRecDepth 100000 in
set_option maxHeartbeats 6400000 in
theorem ReadFigure_any (s : ByteArray) (w : World) :
    Calls Tryd.prog 51 #[.string s] w fun e w' => e = .returned (.tuple #[.agg #[.int .i64 (Z.readFigS s.data.toList).1.1, .int .i64 (Z.readFigS s.data.toList).1.2], .int .i64 (Z.okCode (Z.readFigS s.data.toList).2)]) ∧ K.Ext w w' := by
  by_cases h7 : s.size < 7
  · have HE : Hid (Z.readFigS s.data.toList = ((0, 0), false)) := Z.hide (by
      have hl := Z.bytes_length s
      unfold Z.readFigS
      split
      · rename_i l0 l1 l2 l3 l4 l5 r h
        rw [h] at hl
        rw [if_neg]
        rintro ⟨_, _, hr⟩
        have := List.length_pos_iff.2 hr
        simp at hl; omega
      · rfl)
    have t7 : (s.size : Int) < 7 := by omega
    go_enter Tryd.func51, Tryd.ntmps51
    go_wp2
    (refine bodyPost_ret (v := .tuple #[.agg #[.int .i64 0, .int .i64 0], .int .i64 6]) (by unfold results; rw [Tryd.results51]; go_simp) rfl ⟨?_, ?_⟩)
    · rw [HE.out]; rfl
    · repeat with_reducible first | refine K.Ext.setCell ?_ (by simp) _ | refine K.Ext.alloc ?_ _
      exact K.Ext.refl w
  · obtain ⟨l0, l1, l2, l3, l4, l5, r, hsl, hr⟩ : ∃ l0 l1 l2 l3 l4 l5 r, s.data.toList = l0 :: l1 :: l2 :: l3 :: l4 :: l5 :: r ∧ r ≠ [] := by
      have hl := Z.bytes_length s
      match hL : s.data.toList with
      | l0 :: l1 :: l2 :: l3 :: l4 :: l5 :: l6 :: r => exact ⟨l0, l1, l2, l3, l4, l5, l6 :: r, rfl, by simp⟩
      | [] | [_] | [_, _] | [_, _, _] | [_, _, _, _] | [_, _, _, _, _] | [_, _, _, _, _, _] => rw [hL] at hl; simp at hl; omega
    have es : s = Z.str (l0 :: l1 :: l2 :: l3 :: l4 :: l5 :: r) := by rw [← hsl, Z.str_list]
    have hsz : 7 ≤ s.size := by omega
    have g1 : (s[1]'(by omega)).toNat = l1.toNat := by
      have : s.data.toList[1]? = some (s[1]'(by omega)) := by rw [Array.getElem?_toList, Array.getElem?_eq_getElem (show 1 < s.data.size from by show 1 < s.size; omega)]; rfl
      rw [hsl] at this; rw [← Option.some.inj this]
    have g5 : (s[5]'(by omega)).toNat = l5.toNat := by
      have : s.data.toList[5]? = some (s[5]'(by omega)) := by rw [Array.getElem?_toList, Array.getElem?_eq_getElem (show 5 < s.data.size from by show 5 < s.size; omega)]; rfl
      rw [hsl] at this; rw [← Option.some.inj this]
    have x1 : s.extract 0 1 ++ s.extract 2 5 = Z.str [l0, l2, l3, l4] := by
      rw [es]; unfold Z.str; rw [ByteArray.extract_mk, ByteArray.extract_mk]; exact Z.str_append [l0] [l2, l3, l4]
    have x2 : s.extract 6 s.size = Z.str r := by
      have hl := Z.bytes_length s
      rw [hsl] at hl
      have : s.extract 6 s.size = Z.str ((s.data.toList.drop 6).take (s.size - 6)) := by
        conv => lhs; arg 1; rw [← Z.str_list s]
        unfold Z.str; rw [ByteArray.extract_mk]
      rw [this, hsl]
      congr 1
      exact List.take_of_length_le (by simp at hl ⊢; omega)
    have HV : ∀ w', Calls Tryd.prog 89 #[.string (s.extract 0 1 ++ s.extract 2 5)] w' fun e w'' => e = .returned (.tuple #[.int .i64 (Z.value [l0, l2, l3, l4]).1, .bool (Z.value [l0, l2, l3, l4]).2]) ∧ K.Ext w' w'' := fun w' => by
      have := l01Value_any (s.extract 0 1 ++ s.extract 2 5) w'
      rwa [show (s.extract 0 1 ++ s.extract 2 5).data.toList = [l0, l2, l3, l4] by rw [x1, Z.str_bytes]] at this
    have HS : ∀ w', Calls Tryd.prog 52 #[.string (s.extract 6 s.size)] w' fun e w'' => e = .returned (.tuple #[.int .i64 (Z.signed r).1, .bool (Z.signed r).2]) ∧ K.Ext w' w'' := fun w' => by
      have := l01Signed_any (s.extract 6 s.size) w'
      rwa [show (s.extract 6 s.size).data.toList = r by rw [x2, Z.str_bytes]] at this
    rw [hsl]
    clear hsl es x1 x2
    have t7 : ¬ ((s.size : Int) < 7) := by omega
    have j1 : (1 : Int) ≤ (s.size : Int) := by omega
    have j5 : (5 : Int) ≤ (s.size : Int) := by omega
    have j6 : (6 : Int) ≤ (s.size : Int) := by omega
    have l1' : (1 : Int) < (s.size : Int) := by omega
    have l5' : (5 : Int) < (s.size : Int) := by omega
    have m1 : min 1 s.size = 1 := by omega
    have m5 : min 5 s.size = 5 := by omega
    by_cases b1 : l1 = 46
    · by_cases b5 : l5 = 101
      · have HE : Hid (Z.readFigS (l0 :: l1 :: l2 :: l3 :: l4 :: l5 :: r) = if (Z.value [l0, l2, l3, l4]).2 && (Z.signed r).2 && Z.isFig (Z.value [l0, l2, l3, l4]).1 (Z.signed r).1 then (((Z.value [l0, l2, l3, l4]).1, (Z.signed r).1), true) else ((0, 0), false)) := Z.hide (by simp only [Z.readFigS]; rw [if_pos ⟨b1, b5, hr⟩])
        have u1 : (((s[1]'(by omega)).toNat : Int) == 46) = true := by rw [g1, b1]; rfl
        have u5 : (((s[5]'(by omega)).toNat : Int) == 101) = true := by rw [g5, b5]; rfl
        have u1' : (s[1]'(by omega)).toNat = 46 := by rw [g1, b1]; rfl
        have u5' : (s[5]'(by omega)).toNat = 101 := by rw [g5, b5]; rfl
        generalize Z.value [l0, l2, l3, l4] = a at *
        generalize Z.signed r = b at *
        obtain ⟨x, o1⟩ := a
        obtain ⟨y, o2⟩ := b
        simp only at HE HV HS
        obtain ⟨v, hv⟩ : ∃ v, v = Z.isFig x y := ⟨_, rfl⟩
        have IF := spec_IsFigure x y
        rw [← hv] at IF HE
        clear hv g1 g5 b1 b5 hr
        obtain ⟨S, hS⟩ : ∃ S, S = s.extract 6 s.size := ⟨_, rfl⟩
        go_enter Tryd.func51, Tryd.ntmps51
        go_wp2_with fail
        have c0 : (w.alloc (.cells #[.int .i64 0, .int .i64 0] 25)).heap[w.heap.size]? = some (.cells #[.int .i64 0, .int .i64 0] 25) := K.block_new rfl
        refine K.wp_region_x 9 [0, 0, 0, 0, 0, 2, 0, 0, 0] [K.SP.any, K.SP.any, K.SP.any, K.SP.any, K.SP.any, K.SP.is (.tuple #[.int .i64 x, .bool o1])] (by kernel_rfl) (by kernel_rfl) ?_
        simp only [List.take_succ_cons, List.take_zero, List.drop_succ_cons, List.drop_zero]
        iterate 5
          apply K.x_pure
          · rfl
          · rfl
          · intro w'; go_simp; first | done | exact K.vint (IntWalk.i64_in _ (by omega)) | rfl | exact ⟨rfl, rfl⟩
          simp only [Act.put, List.setIfInBounds_toArray, List.set]
        apply K.x_call_is
        · rfl
        · rfl
        · rfl
        · intro w'; go_simp; first | done | rfl | exact ⟨rfl, rfl⟩
        · intro w' hx hp; have hc := hx.all.1.1; have hf := hx.all.1.2; have hc' := hx.all.2.1; have hf' := hx.all.2.2; exact HV _
        intro w_5_ hx_5_
        simp only [Act.put, List.setIfInBounds_toArray, List.set]
        iterate 3
          apply K.x_pure
          · rfl
          · rfl
          · intro w'; go_simp; first | done | exact K.vint (IntWalk.i64_in _ (by omega)) | rfl | exact ⟨rfl, rfl⟩
          simp only [Act.put, List.setIfInBounds_toArray, List.set]
        apply K.x_done
        intro w1 h_x
        have f1 := hx_5_.trans h_x
        clear h_x hx_5_
        obtain ⟨⟨hcw1, hfw1⟩, hc'w1, hf'w1⟩ := f1.all
        go_wp2_with fail
        refine NoPanic.normal ?_
        have B1 := K.Ext.block f1 c0
        have e1 : K.Ext w w1 := K.Ext.trans ((K.Ext.refl w).alloc _).drew f1
        clear f1 c0
        go_wp2_with fail
        refine K.call (by with_reducible rfl) (by with_reducible rfl) (HS _) ?_
        rintro e w2 ⟨rfl, f2⟩
        have B2 := f2.block B1
        have e2 := e1.trans f2
        clear f2 B1 e1
        have z2 : w.heap.size < w2.heap.size := (Array.getElem?_eq_some_iff.1 B2).1
        have r0 : w2.cell? ⟨w.heap.size, 0, none⟩ = some (.int .i64 0) := K.cell_at B2 rfl
        have r1 : w2.cell? ⟨w.heap.size, 1, none⟩ = some (.int .i64 0) := K.cell_at B2 rfl
        have t0 : w2.frozen? ⟨w.heap.size, 0, none⟩ = false := K.thaw_at B2
        have t1 : w2.frozen? ⟨w.heap.size, 1, none⟩ = false := K.thaw_at B2
        cases o1
        · go_wp2
          (refine bodyPost_ret (v := .tuple #[.agg #[.int .i64 0, .int .i64 0], .int .i64 6]) (by unfold results; rw [Tryd.results51]; go_simp) rfl ⟨?_, ?_⟩)
          · rw [HE.out]; rfl
          · repeat' (first | with_reducible exact e2 | with_reducible refine K.Ext.alloc ?_ _ | with_reducible refine K.Ext.setCell ?_ (by dsimp only; omega) _)
        · cases o2
          · go_wp2
            (refine bodyPost_ret (v := .tuple #[.agg #[.int .i64 0, .int .i64 0], .int .i64 6]) (by unfold results; rw [Tryd.results51]; go_simp) rfl ⟨?_, ?_⟩)
            · rw [HE.out]; rfl
            · repeat' (first | with_reducible exact e2 | with_reducible refine K.Ext.alloc ?_ _ | with_reducible refine K.Ext.setCell ?_ (by dsimp only; omega) _)
          · go_wp2_with fail
            refine K.call (by with_reducible rfl) (by with_reducible rfl) (IF _) ?_
            rintro e w5 ⟨rfl, f5⟩
            have B5 := f5.block (((K.Ext.refl w2).alloc _).block B2)
            have A5 : w5.heap[w2.heap.size]? = some (.cells #[.int .i64 x, .int .i64 y] 25) := f5.block (K.block_new rfl)
            have e5 : K.Ext w w5 := (e2.alloc _).trans f5
            clear f5 B2 e2 r0 r1 t0 t1
            have r0 : w5.cell? ⟨w.heap.size, 0, none⟩ = some (.int .i64 0) := K.cell_at B5 rfl
            have r1 : w5.cell? ⟨w.heap.size, 1, none⟩ = some (.int .i64 0) := K.cell_at B5 rfl
            have t0 : w5.frozen? ⟨w.heap.size, 0, none⟩ = false := K.thaw_at B5
            have t1 : w5.frozen? ⟨w.heap.size, 1, none⟩ = false := K.thaw_at B5
            have p0 : w5.cell? ⟨w2.heap.size, 0, none⟩ = some (.int .i64 x) := K.cell_at A5 rfl
            have p1 : w5.cell? ⟨w2.heap.size, 1, none⟩ = some (.int .i64 y) := K.cell_at A5 rfl
            cases v
            · go_wp2
              (refine bodyPost_ret (v := .tuple #[.agg #[.int .i64 0, .int .i64 0], .int .i64 6]) (by unfold results; rw [Tryd.results51]; go_simp) rfl ⟨?_, ?_⟩)
              · rw [HE.out]; rfl
              · repeat' (first | with_reducible exact e5 | with_reducible refine K.Ext.alloc ?_ _ | with_reducible refine K.Ext.setCell ?_ (by dsimp only; omega) _)
            · go_wp2
              refine bodyPost_ret (v := .tuple #[.agg #[.int .i64 x, .int .i64 y], .int .i64 0]) (by unfold results; rw [Tryd.results51]; go_simp) rfl ⟨?_, ?_⟩
              · rw [HE.out]; rfl
              · repeat' (first | with_reducible exact e5 | with_reducible refine K.Ext.alloc ?_ _ | with_reducible refine K.Ext.setCell ?_ (by dsimp only; omega) _)
      · have HE : Hid (Z.readFigS (l0 :: l1 :: l2 :: l3 :: l4 :: l5 :: r) = ((0, 0), false)) := Z.hide (by simp only [Z.readFigS]; rw [if_neg (fun h => b5 h.2.1)])
        have u1 : (((s[1]'(by omega)).toNat : Int) == 46) = true := by rw [g1, b1]; rfl
        have u1' : (s[1]'(by omega)).toNat = 46 := by rw [g1, b1]; rfl
        have u5' : ¬ ((s[5]'(by omega)).toNat = 101) := by rw [g5]; exact fun e => b5 (UInt8.toNat_inj.1 e)
        have u5 : (((s[5]'(by omega)).toNat : Int) == 101) = false := by rw [beq_eq_false_iff_ne]; omega
        clear b1 b5 g1 g5 hr HV HS
        go_enter Tryd.func51, Tryd.ntmps51
        go_wp2
        (refine bodyPost_ret (v := .tuple #[.agg #[.int .i64 0, .int .i64 0], .int .i64 6]) (by unfold results; rw [Tryd.results51]; go_simp) rfl ⟨?_, ?_⟩)
        · rw [HE.out]; rfl
        · repeat with_reducible first | refine K.Ext.setCell ?_ (by simp) _ | refine K.Ext.alloc ?_ _
          exact K.Ext.refl w
    · have HE : Hid (Z.readFigS (l0 :: l1 :: l2 :: l3 :: l4 :: l5 :: r) = ((0, 0), false)) := Z.hide (by simp only [Z.readFigS]; rw [if_neg (fun h => b1 h.1)])
      have u1' : ¬ ((s[1]'(by omega)).toNat = 46) := by rw [g1]; exact fun e => b1 (UInt8.toNat_inj.1 e)
      have u1 : (((s[1]'(by omega)).toNat : Int) == 46) = false := by rw [beq_eq_false_iff_ne]; omega
      clear b1 g1 g5 hr HV HS
      go_enter Tryd.func51, Tryd.ntmps51
      go_wp2
      (refine bodyPost_ret (v := .tuple #[.agg #[.int .i64 0, .int .i64 0], .int .i64 6]) (by unfold results; rw [Tryd.results51]; go_simp) rfl ⟨?_, ?_⟩)
      · rw [HE.out]; rfl
      · repeat with_reducible first | refine K.Ext.setCell ?_ (by simp) _ | refine K.Ext.alloc ?_ _
        exact K.Ext.refl w
end Go.Proofs.YtbloldnmlhhbhaaDoor
end
section
namespace Go.Z
/-- how far the splitting has come -/
structure SplitI (c : UInt8) (l : List UInt8) (i m : Nat) (done : List (List UInt8)) : Prop where
  run : i ≤ l.length → splitC c l = done ++ splitC c (l.drop m) ∧ c ∉ (l.take i).drop m
  fin : l.length < i → done = splitC c l
theorem SplitI.start (c : UInt8) (l : List UInt8) : SplitI c l 0 0 [] := ⟨fun _ => ⟨rfl, by simp⟩, fun h => absurd h (by omega)⟩
theorem take_next {l : List UInt8} {i : Nat} (h : i < l.length) : l.take (i + 1) = l.take i ++ [l[i]] := by rw [List.take_succ_eq_append_getElem h]
theorem SplitI.other {c : UInt8} {l : List UInt8} {i m : Nat} {done : List (List UInt8)} (h : SplitI c l i m done) (hm : m ≤ i) (hi : i < l.length) (hc : l[i]'hi ≠ c) : SplitI c l (i + 1) m done := by
  obtain ⟨h1, h2⟩ := h.run (by omega)
  refine ⟨fun _ => ⟨h1, ?_⟩, fun h => absurd h (by omega)⟩
  rw [take_next hi, List.drop_append_of_le_length (by simp; omega)]
  intro hx
  rcases List.mem_append.1 hx with hx | hx
  · exact h2 hx
  · have h3 : c = l[i] := by simpa using hx
    exact hc h3.symm
theorem SplitI.hit {c : UInt8} {l : List UInt8} {i m : Nat} {done : List (List UInt8)} (h : SplitI c l i m done) (hm : m ≤ i) (hi : i < l.length) (hc : l[i]'hi = c) : SplitI c l (i + 1) (i + 1) (done ++ [(l.take i).drop m]) := by
  obtain ⟨h1, h2⟩ := h.run (by omega)
  have e : l.drop m = (l.take i).drop m ++ c :: l.drop (i + 1) := by
    rw [← hc, ← List.drop_eq_getElem_cons hi]
    have h3 : l.drop m = (l.take i ++ l.drop i).drop m := by rw [List.take_append_drop]
    rw [h3, List.drop_append_of_le_length (by simp; omega)]
  refine ⟨fun _ => ⟨?_, by simp⟩, fun h => absurd h (by omega)⟩
  rw [h1, e, splitC_cut _ h2, List.append_assoc]; rfl
theorem SplitI.last {c : UInt8} {l : List UInt8} {i m : Nat} {done : List (List UInt8)} (h : SplitI c l i m done) (hi : i = l.length) : SplitI c l (i + 1) (i + 1) (done ++ [(l.take i).drop m]) := by
  obtain ⟨h1, h2⟩ := h.run (by omega)
  subst hi
  rw [List.take_length] at h2 ⊢
  exact ⟨fun h => absurd h (by omega), fun _ => by rw [h1, splitC_piece h2]⟩
theorem extract_bytes (s : ByteArray) (a b : Nat) : (s.extract a b).data.toList = (s.data.toList.take b).drop a := by
  rw [ByteArray.data_extract, Array.toList_extract, List.drop_take]
end Go.Z
namespace Go.Proofs.YtbloldnmlhhbhaaDoor
open Go.RowKit
theorem info_str : (Tryd.prog.info? 9).map (fun i => (i.zero, i.size, i.bytes)) = some (some (.string ByteArray.empty), 1, 16) := by kernel_rfl
/-- a row of strings -/
def strVals (ls : List (List UInt8)) : List Value := ls.map fun p => Value.string (Z.str p)
set_option maxRecDepth 100000 in
set_option maxHeartbeats 6400000 in
theorem l01Split_any (s : ByteArray) (c : UInt8) (w : World) (hs : s.size ≤ 1048576) :
    Calls Tryd.prog 50 #[.string s, .int .u8 (c.toNat : Int)] w fun e w' => (∃ v, e = .returned v ∧ w'.ownsRow w.heap.size 9 1 v (Z.splitC c s.data.toList).length (strVals (Z.splitC c s.data.toList))) ∧ K.Ext w w' := by
  have HSZ := Z.hide (Z.bytes_length s)
  obtain ⟨it0, hi0, hz0, hz1, hz2⟩ := info_parts info_str
  obtain ⟨C, hC⟩ : ∃ C : Int, C = (c.toNat : Int) := ⟨_, rfl⟩
  rw [← hC]
  have HC := Z.hide hC
  clear hC
  go_enter Tryd.func50, Tryd.ntmps50
  go_wp2
  go_loopw [5, 6, 7] (fun u fr i wr => ∃ (j m : Nat) (done : List (List UInt8)), fr = .int .i64 m ∧ i = .int .i64 j ∧ j ≤ s.size + 1 ∧ m ≤ j ∧ done.length ≤ j ∧ Hid (Z.SplitI c s.data.toList j m done) ∧ Hid (wr.ownsRow w.heap.size 9 1 u done.length (strVals done)) ∧ Hid (K.Ext w wr)) (fun _ _ i _ => s.size + 1 - (intOf i).toNat)
  case atStart => exact ⟨0, 0, [], rfl, rfl, Nat.zero_le _, Nat.le_refl _, Nat.le_refl _, Z.hide (Z.SplitI.start _ _), Z.hide (World.ownsRow_lit _ _ _ (Nat.le_refl _) (by decide) (by simp)), Z.hide ((K.Ext.refl _).alloc _)⟩
  case round =>
    obtain ⟨j, m, done, rfl, rfl, hj, hm, hd, HI, HO, HX⟩ := hrel
    have j0 : (0 : Int) ≤ (j : Int) := Int.natCast_nonneg j
    have m0 : (0 : Int) ≤ (m : Int) := Int.natCast_nonneg m
    have mj : (m : Int) ≤ (j : Int) := by omega
    have hw := HX.out.size
    by_cases hjn : j ≤ s.size
    · have j1 : (j : Int) ≤ (s.size : Int) := by omega
      have qj : IntKind.i64.wrap ((j : Int) + 1) = (j : Int) + 1 := IntWalk.i64_in _ (by omega)
      have hsl := K.cut_str (P := Tryd.prog) (t := 9) (s := s) (i := m) (j := j) (a := (m : Int)) (b := (j : Int)) Tryd.underlying9 rfl rfl hm hjn
      obtain ⟨P, hP⟩ : ∃ P, P = s.extract m j := ⟨_, rfl⟩
      rw [← hP] at hsl
      have HP := Z.hide (show Value.string P = Value.string (Z.str ((s.data.toList.take j).drop m)) by rw [hP, ← Z.extract_bytes, Z.str_list])
      clear hP
      rcases Nat.lt_or_ge j s.size with hlt | hge
      · have j2 : (j : Int) < (s.size : Int) := by omega
        have j3 : ((j : Int) == (s.size : Int)) = false := by simp; omega
        have j4 : ¬ ((j : Int) = (s.size : Int)) := by omega
        have hll : j < s.data.toList.length := by rw [HSZ.out]; exact hlt
        have HB := Z.hide (show s.data.toList[j]'hll = s[j]'hlt by rw [Array.getElem_toList]; rfl)
        cases hq : (((s[j]'hlt).toNat : Int) == C)
        · have hne : ¬ (((s[j]'hlt).toNat : Int) = C) := by simpa using hq
          have HN := Z.hide (HI.out.other hm hll (by rw [HB.out]; intro e; exact hne (by rw [e, HC.out])))
          go_wp2
          go_roundw
          case rel => exact ⟨j + 1, m, done, rfl, by go_num, by omega, by omega, by omega, HN, HO, HX⟩
          case measure => first | (simp [intOf]; done) | (simp [intOf]; omega)
        · have heq : ((s[j]'hlt).toNat : Int) = C := by simpa using hq
          have HN := Z.hide (HI.out.hit hm hll (by rw [HB.out]; exact UInt8.toNat_inj.1 (by have := HC.out; omega)))
          go_wp2_with (at_builtin; refine wpList_append_lies _ rfl _ _ _ rfl w.heap.size 9 it0 _ 1 16 Tryd.underlying70 hi0 hz0 hz1 hz2 rfl (by omega) _ done.length _ rfl (HO.out.alloc _) ⟨wr.heap.size, 0, none⟩ 1 1 [.string P] rfl rfl (World.news_of_block (cs := #[.string P]) (t := 9) (fr := (0, 0)) (K.block_new rfl)) (by simp [Value.oneCell']) (by omega) (by unfold maxLen; omega) (by omega) (by simp; omega) (wr.heap.size + 1) (by simp) ?_; intro g2 gcap2 w2 hown2 hgrow2 hat2 hlt3; have HO2 := Z.hide hown2; have HX2 : Hid (K.Ext w w2) := Z.hide ((HX.out.alloc _).below.grown hgrow2 (by simp; omega) (fun g hg => (HO.out.lt g hg).1)); clear hown2 hgrow2 hat2 hlt3)
          go_roundw
          case rel => exact ⟨j + 1, j + 1, done ++ [(s.data.toList.take j).drop m], by go_num, by go_num, by omega, by omega, by simp; omega, HN, Z.hide (by have := HO2.out; rw [HP.out] at this; simpa [strVals] using this), HX2⟩
          case measure => first | (simp [intOf]; done) | (simp [intOf]; omega)
      · obtain rfl : j = s.size := by omega
        have HN := Z.hide (HI.out.last (HSZ.out).symm)
        go_wp2_with (at_builtin; refine wpList_append_lies _ rfl _ _ _ rfl w.heap.size 9 it0 _ 1 16 Tryd.underlying70 hi0 hz0 hz1 hz2 rfl (by omega) _ done.length _ rfl (HO.out.alloc _) ⟨wr.heap.size, 0, none⟩ 1 1 [.string P] rfl rfl (World.news_of_block (cs := #[.string P]) (t := 9) (fr := (0, 0)) (K.block_new rfl)) (by simp [Value.oneCell']) (by omega) (by unfold maxLen; omega) (by omega) (by simp; omega) (wr.heap.size + 1) (by simp) ?_; intro g2 gcap2 w2 hown2 hgrow2 hat2 hlt3; have HO2 := Z.hide hown2; have HX2 : Hid (K.Ext w w2) := Z.hide ((HX.out.alloc _).below.grown hgrow2 (by simp; omega) (fun g hg => (HO.out.lt g hg).1)); clear hown2 hgrow2 hat2 hlt3)
        go_roundw
        case rel => exact ⟨s.size + 1, s.size + 1, done ++ [(s.data.toList.take s.size).drop m], by go_num, by go_num, by omega, by omega, by simp; omega, HN, Z.hide (by have := HO2.out; rw [HP.out] at this; simpa [strVals] using this), HX2⟩
        case measure => first | (simp [intOf]; done) | (simp [intOf]; omega)
    · have j1 : ¬ ((j : Int) ≤ (s.size : Int)) := by omega
      obtain rfl := HI.out.fin (by rw [HSZ.out]; omega)
      go_wp2
      go_ret
      exact ⟨⟨_, rfl, HO.out⟩, HX.out⟩
end Go.Proofs.YtbloldnmlhhbhaaDoor
end
section
namespace Go.K
open Go.RowKit
theorem set_block' {w : World} {k : Nat} {a : Addr} {v : Value} (hne : k ≠ a.block) : (w.setCell a v).heap[k]? = w.heap[k]? := Below.heap_setCell _ _ _ _ hne
theorem box4 {w : World} {a : Nat} {c0 c1 c2 c3 : Value} {T : TypeId} (h : w.heap[a]? = some (.cells #[c0, c1, c2, c3] T)) :
    (w.cell? ⟨a, 0, none⟩ = some c0 ∧ w.cell? ⟨a, 1, none⟩ = some c1 ∧ w.cell? ⟨a, 2, none⟩ = some c2 ∧ w.cell? ⟨a, 3, none⟩ = some c3) ∧
    (w.frozen? ⟨a, 0, none⟩ = false ∧ w.frozen? ⟨a, 1, none⟩ = false ∧ w.frozen? ⟨a, 2, none⟩ = false ∧ w.frozen? ⟨a, 3, none⟩ = false) ∧ a < w.heap.size :=
  ⟨⟨cell_at h rfl, cell_at h rfl, cell_at h rfl, cell_at h rfl⟩, ⟨thaw_at h, thaw_at h, thaw_at h, thaw_at h⟩, (Array.getElem?_eq_some_iff.1 h).1⟩
end Go.K
namespace Go.Proofs.YtbloldnmlhhbhaaDoor
open Go.RowKit
theorem split_any (s : ByteArray) (c : UInt8) (w : World) (hs : s.size ≤ 1048576) (hL : LV w) :
    Calls Tryd.prog 69 #[.string s, .string ⟨#[c]⟩] w fun e w' => (∃ b cap, e = .returned (.slice (some ⟨b, 0, none⟩) (Z.splitC c s.data.toList).length cap) ∧ (Z.splitC c s.data.toList).length ≤ cap ∧ w.heap.size ≤ b ∧ (∀ j (h : j < (Z.splitC c s.data.toList).length), w'.cell? ⟨b, j, none⟩ = some (.string (Z.str ((Z.splitC c s.data.toList)[j]'h))))) ∧ K.Ext w w' := by
  obtain ⟨m, hm⟩ := hL.maxl
  have hd : (Lib.splitB ⟨#[c]⟩ 0 (Lib.countB s ⟨#[c]⟩) s).map (·.data.toList) = Z.splitC c s.data.toList := by
    rw [Lib.splitB_data]; exact Z.split_C c s.data.toList
  have hl := Lib.splitB_all ⟨#[c]⟩ (Nat.le_refl 1) 0 _ s rfl
  have he : Lib.splitB ⟨#[c]⟩ 0 (Lib.countB s ⟨#[c]⟩) s = (Z.splitC c s.data.toList).map Z.str := by
    rw [← hd, List.map_map]
    conv => lhs; rw [← List.map_id (Lib.splitB ⟨#[c]⟩ 0 (Lib.countB s ⟨#[c]⟩) s)]
    exact List.map_congr_left fun p _ => (Z.str_list p).symm
  have hn : (Z.splitC c s.data.toList).length = Lib.countB s ⟨#[c]⟩ + 1 := by rw [← hl, he, List.length_map]
  refine (Tryd.strings_Split s ⟨#[c]⟩ m w (by omega) hm (Nat.le_refl 1)).mono fun e w' ⟨h1, h2⟩ => ?_
  subst h2
  refine ⟨⟨w.heap.size, Lib.countB s ⟨#[c]⟩ + 1, by rw [hn]; exact h1, by omega, Nat.le_refl _, fun j hj => ?_⟩, (K.Ext.refl _).alloc _⟩
  rw [he]
  refine K.cell_at (K.block_new rfl) ?_
  simp [List.getElem?_map, List.getElem?_eq_getElem hj]
/-- the same, the first piece apart -/
theorem split_parts (s : ByteArray) (c : UInt8) {p0 : List UInt8} {ps : List (List UInt8)} (hp : Z.splitC c s.data.toList = p0 :: ps) (w : World) (hs : s.size ≤ 1048576) (hL : LV w) :
    Calls Tryd.prog 69 #[.string s, .string ⟨#[c]⟩] w fun e w' => (∃ b cap, e = .returned (.slice (some ⟨b, 0, none⟩) (ps.length + 1) cap) ∧ ps.length + 1 ≤ cap ∧ w.heap.size ≤ b ∧ w'.cell? ⟨b, 0, none⟩ = some (.string (Z.str p0)) ∧ (∀ j p, ps[j]? = some p → w'.cell? ⟨b, 1 + j, none⟩ = some (.string (Z.str p)))) ∧ K.Ext w w' := by
  refine (split_any s c w hs hL).mono fun e w' ⟨⟨b, cap, he, hc, hb, hx⟩, hw⟩ => ⟨⟨b, cap, ?_, ?_, hb, ?_, fun j p hj => ?_⟩, hw⟩
  · rw [he, hp]; rfl
  · rw [hp] at hc; simpa using hc
  · have := hx 0 (by rw [hp]; simp)
    simp only [hp] at this; exact this
  · obtain ⟨hj, rfl⟩ := List.getElem?_eq_some_iff.1 hj
    have := hx (1 + j) (by rw [hp]; simp; omega)
    simp only [hp, Nat.add_comm 1 j] at this ⊢; exact this
/-- all pieces but the first -/
theorem cut_one {b m cap : Nat} (hc : m + 1 ≤ cap) : ∃ o1, (0 < m → o1 = 1) ∧ ∀ w : World, (Instr.slice 70 (.slice (some ⟨b, 0, none⟩) (m + 1) cap) (some (.int .i64 1)) none none).run Tryd.prog w = .ok (.slice (some ⟨b, o1, none⟩) m (cap - 1)) w := by
  have i1 : (1 : Int) ≤ (m : Int) + 1 := by omega
  by_cases h : cap = 1
  · subst h
    obtain rfl : m = 0 := by omega
    exact ⟨0, by omega, fun w => by go_simp⟩
  · exact ⟨1, fun _ => rfl, fun w => by go_simp⟩
set_option maxRecDepth 100000 in
set_option maxHeartbeats 6400000 in
theorem readFormula_any (s : ByteArray) (w : World) (hs : s.size ≤ 1048576) (hL : LV w) :
    Calls Tryd.prog 49 #[.string s] w fun e w' => (∃ (F : Z.Fm) (ok : Bool) (p : Value), e = .returned (.tuple #[.agg #[.int .i64 F.dg, .int .i64 F.tn, .string F.nm, p], .bool ok]) ∧ Z.FmR s F ok ∧ K.own w' w.heap.size w'.heap.size p F.pw) ∧ K.Ext w w' := by
  obtain ⟨p0, ps, hsp⟩ : ∃ p0 ps, Z.splitC 42 s.data.toList = p0 :: ps := by
    cases h : Z.splitC 42 s.data.toList with
    | nil => exact absurd h (Z.splitC_ne _ _)
    | cons a b => exact ⟨a, b, rfl⟩
  have HSP := Z.hide hsp
  have hl0 := Z.bytes_length s
  have hm : ps.length ≤ s.size := by have := Z.splitC_len 42 s.data.toList; rw [hsp] at this; simp at this; omega
  have HPL : Hid (∀ p ∈ p0 :: ps, (Z.str p).size ≤ 1048576) := Z.hide (fun p hp => by rw [Z.str_size]; have := Z.splitC_mem_len 42 s.data.toList p (by rw [hsp]; exact hp); omega)
  have HS := fun w' hL' => split_parts s 42 hsp w' hs hL'
  have hp0 := HPL.out p0 (by simp)
  obtain ⟨d, t, ok, hf⟩ : ∃ d t ok, Z.readFig (Z.str p0) = ((d, t), ok) := ⟨_, _, _, rfl⟩
  have HF : ∀ w', LV w' → Calls Tryd.prog 87 #[.string (Z.str p0)] w' fun e w'' => e = .returned (.tuple #[.agg #[.int .i64 d, .int .i64 t], .bool ok]) ∧ K.Ext w' w'' := fun w' h => by have h_ := readFigure_any (Z.str p0) w' hp0 h; rwa [hf] at h_
  have HF0 := Z.hide hf
  obtain ⟨P0, hP0⟩ : ∃ P0, P0 = Z.str p0 := ⟨_, rfl⟩
  rw [← hP0] at HF HS
  obtain ⟨m, hmd⟩ : ∃ m, m = ps.length := ⟨_, rfl⟩
  have HM := Z.hide hmd
  rw [← hmd] at hm HS
  have HLV := Z.hide hL
  have I64 := Z.hide info_int
  clear hsp hf hp0 hmd hL hl0 hP0
  go_enter Tryd.func49, Tryd.ntmps49
  go_wp2_with fail
  refine K.call (by with_reducible rfl) (by with_reducible rfl) (HS _ (HLV.out.ext (by repeat' (first | with_reducible exact K.Ext.refl _ | with_reducible assumption | with_reducible refine K.Ext.drew ?_ | with_reducible refine K.Ext.alloc ?_ _ | with_reducible refine K.Ext.setCell ?_ ?_ _ | with_reducible refine K.Ext.trans ?_ (by with_reducible assumption) | (dsimp only; omega) | omega | exact K.Ext.refl _ | assumption | apply K.Ext.drew | refine K.Ext.alloc ?_ _ | refine K.Ext.setCell ?_ ?_ _ | (simp; done) | (simp; omega) | refine K.Ext.trans ?_ (by assumption))))) ?_
  rintro e w1 ⟨⟨b, cap, rfl, hcap, hb, hc0, hcs⟩, f1⟩
  have F1 : K.Ext w w1 := ((K.Ext.refl _).alloc _).trans f1
  have B1 := Z.hide (K.Ext.block_of (K.block_new (w := w) (o := .cells #[.int .i64 0, .int .i64 0, .string ⟨#[]⟩, .slice none 0 0] 28) rfl) f1)
  have l1 := (Array.getElem?_eq_some_iff.1 B1.out).1
  have HCS := Z.hide hcs
  have HC0 := Z.hide hc0
  have lb : b < w1.heap.size := World.block_lt_of_cell? w1 _ hc0
  have hbl : w1.heap.size ≠ b := by omega
  clear hcs HS
  go_wp2_with fail
  refine K.call (by with_reducible rfl) (by with_reducible rfl) (HF _ (HLV.out.ext (by repeat' (first | with_reducible exact K.Ext.refl _ | with_reducible assumption | with_reducible refine K.Ext.drew ?_ | with_reducible refine K.Ext.alloc ?_ _ | with_reducible refine K.Ext.setCell ?_ ?_ _ | with_reducible refine K.Ext.trans ?_ (by with_reducible assumption) | (dsimp only; omega) | omega | exact K.Ext.refl _ | assumption | apply K.Ext.drew | refine K.Ext.alloc ?_ _ | refine K.Ext.setCell ?_ ?_ _ | (simp; done) | (simp; omega) | refine K.Ext.trans ?_ (by assumption))))) ?_
  rintro e w2 ⟨rfl, f2⟩
  have X2 : K.Ext w1 w2 := (by repeat' (first | with_reducible exact K.Ext.refl _ | with_reducible assumption | with_reducible refine K.Ext.drew ?_ | with_reducible refine K.Ext.alloc ?_ _ | with_reducible refine K.Ext.setCell ?_ ?_ _ | with_reducible refine K.Ext.trans ?_ (by with_reducible assumption) | (dsimp only; omega) | omega | exact K.Ext.refl _ | assumption | apply K.Ext.drew | refine K.Ext.alloc ?_ _ | refine K.Ext.setCell ?_ ?_ _ | (simp; done) | (simp; omega) | refine K.Ext.trans ?_ (by assumption)))
  have B2 := Z.hide (K.Ext.block_of B1.out X2)
  obtain ⟨⟨r0, r1, r2, r3⟩, ⟨t0, t1, t2, t3⟩, l2⟩ := K.box4 B2.out
  have C2 := Z.hide (K.Ext.block_of (K.block_new (w := w1) (o := .cells #[.int .i64 0, .int .i64 0, .string ⟨#[]⟩, .slice none 0 0] 28) rfl) f2)
  obtain ⟨⟨v0, v1, v2, v3⟩, ⟨u0, u1, u2, u3⟩, m2⟩ := K.box4 C2.out
  have HX2 := Z.hide (F1.trans X2)
  have ne1 : w1.heap.size ≠ w.heap.size := by omega
  have ne2 : w.heap.size ≠ w1.heap.size := by omega
  cases ok
  · have HR : Hid (Z.FmR s Z.zeroFm false) := Z.hide (Z.RdI.fail HSP.out HF0.out)
    go_wp2
    refine bodyPost_ret (v := .tuple #[.agg #[.int .i64 0, .int .i64 0, .string ⟨#[]⟩, .slice none 0 0], .bool false]) (by unfold results; rw [Tryd.results49]; go_simp) rfl ⟨⟨Z.zeroFm, false, _, rfl, HR.out, K.own_nil _ _ _⟩, ?_⟩
    repeat with_reducible refine K.Ext.setCell ?_ (by dsimp only; omega) _
    exact HX2.out
  · have HS0 : Hid (Z.RdI s d t m 0 [] []) := Z.hide (by rw [HM.out]; exact Z.RdI.start HSP.out HF0.out)
    obtain ⟨o1, ho1, hsl⟩ := cut_one (b := b) hcap
    have HO1 := Z.hide ho1
    have hz : m = 0 ∨ 0 < m := by omega
    clear ho1
    go_wp2
    clear hsl r0 r1 r2 r3 t0 t1 t2 t3 v0 v1 v2 v3 u0 u1 u2 u3
    go_loopw [6, 30] (fun o i wr => ∃ (k : Nat) (N : ByteArray) (P : List Int) (pv : Value), k ≤ m ∧ i = .int .i64 k ∧ o = .bool true ∧ N.size = k ∧ P.length = k ∧ Hid (wr.heap[w1.heap.size]? = some (.cells #[.int .i64 d, .int .i64 t, .string N, pv] 28)) ∧ Hid (wr.ownsRow (w1.heap.size + 1) 2 1 pv k (P.map (Value.int .i64))) ∧ Hid (K.Ext w1 wr) ∧ Hid (wr.heap[w.heap.size]? = some (.cells #[.int .i64 0, .int .i64 0, .string ⟨#[]⟩, .slice none 0 0] 28)) ∧ Hid (Z.RdI s d t m k N.data.toList P)) (fun _ i _ => m - (intOf i).toNat)
    case atStart =>
      exact ⟨0, ⟨#[]⟩, [], _, Nat.zero_le _, rfl, rfl, rfl, rfl, Z.hide (Joins.block_setCell (Joins.block_setCell C2.out _) _), Z.hide (World.ownsRow_nil _ _ _ _), Z.hide (by repeat' (first | with_reducible exact K.Ext.refl _ | with_reducible assumption | with_reducible refine K.Ext.drew ?_ | with_reducible refine K.Ext.alloc ?_ _ | with_reducible refine K.Ext.setCell ?_ ?_ _ | with_reducible refine K.Ext.trans ?_ (by with_reducible assumption) | (dsimp only; omega) | omega | exact K.Ext.refl _ | assumption | apply K.Ext.drew | refine K.Ext.alloc ?_ _ | refine K.Ext.setCell ?_ ?_ _ | (simp; done) | (simp; omega) | refine K.Ext.trans ?_ (by assumption))), Z.hide ((K.set_block' (by dsimp only; omega)).trans ((K.set_block' (by dsimp only; omega)).trans B2.out)), HS0⟩
    case round =>
      obtain ⟨k, N, P, pv, hk, rfl, rfl, hN, hP, C3, HO, HX, B3, HI⟩ := hrel
      by_cases hlt : k < m
      · have hkp : k < ps.length := by rw [← HM.out]; exact hlt
        obtain rfl : o1 = 1 := HO1.out (by omega)
        obtain ⟨p, hp⟩ : ∃ p, p = ps[k]'hkp := ⟨_, rfl⟩
        have HPK := Z.hide hp
        have hck : wr.cell? ⟨b, 1 + k, none⟩ = some (.string (Z.str p)) := HX.out.cell_of (HCS.out k p (by rw [hp]; exact List.getElem?_eq_getElem hkp))
        have hpl := HPL.out p (by rw [hp]; exact List.mem_cons_of_mem _ (List.getElem_mem hkp))
        obtain ⟨A, B, c, hcut⟩ : ∃ A B c, Lib.cut p [94] = (A, B, c) := ⟨_, _, _, rfl⟩
        have hlen := Z.cut_len p 94
        rw [hcut] at hlen
        rw [Z.str_size] at hpl
        have HC : ∀ w', LV w' → Calls Tryd.prog 88 #[.string (Z.str p), .string ⟨#[94]⟩] w' fun e w'' => e = .returned (.tuple #[.string (Z.str A), .string (Z.str B), .bool c]) ∧ K.Ext w' w'' := fun w' h => by have h_ := cut_any (Z.str p) 94 w' (by rw [Z.str_size]; exact hpl) h; rw [Z.str_bytes, hcut] at h_; exact h_
        obtain ⟨x, bx, hn⟩ : ∃ x bx, Z.number (Z.str B) = (x, bx) := ⟨_, _, rfl⟩
        have HNum : ∀ w', LV w' → Calls Tryd.prog 72 #[.string (Z.str B)] w' fun e w'' => e = .returned (.tuple #[.int .i64 x, .bool bx]) ∧ K.Ext w' w'' := fun w' h => by have h_ := number_any (Z.str B) w' (by rw [Z.str_size]; have := hlen.2; dsimp only at this; omega) h; rw [hn] at h_; exact h_
        have HRD : Hid (Z.rdPart p = (A, if c then x else 1, if c then bx else true)) := Z.hide (by unfold Z.rdPart; rw [hcut]; dsimp only; rw [hn]; cases c <;> rfl)
        have hAs : (Z.str A).size = A.length := Z.str_size A
        obtain ⟨SA, hSA⟩ : ∃ SA, SA = Z.str A := ⟨_, rfl⟩
        have HSA := Z.hide hSA
        rw [← hSA] at HC hAs
        generalize Z.str B = SB at HC HNum
        generalize Z.str p = SP at hck HC
        clear hp hcut hn hSA hlen hpl
        obtain ⟨it0, hi0, hz0, hz1, hz2⟩ := info_parts I64.out
        have k0 : (0 : Int) ≤ (k : Int) := Int.natCast_nonneg k
        have k1 : (k : Int) < (m : Int) := by omega
        have qk : IntKind.i64.wrap ((k : Int) + 1) = (k : Int) + 1 := IntWalk.i64_in _ (by omega)
        have o2 : ¬ (9223372036854775807 < k + 1) := by omega
        have lw := HX.out.size
        go_wp2_with fail
        refine K.call (by with_reducible rfl) (by with_reducible rfl) (HC _ (HLV.out.ext (F1.trans HX.out))) ?_
        rintro e w3 ⟨rfl, f3⟩
        have lw3 := f3.size
        clear HC
        cases c
        · by_cases hA1 : A.length = 1
          · have hA1' : SA.size = 1 := by omega
            have D2 := Z.hide (K.Ext.block_of C3.out f3)
            have D1 := Z.hide (K.Ext.block_of B3.out f3)
            have HX3 := Z.hide (HX.out.trans f3)
            have HP3 := Z.hide (K.row_ext HO.out f3)
            obtain ⟨⟨v0, v1, v2, v3⟩, ⟨u0, u1, u2, u3⟩, m3⟩ := K.box4 D2.out
            go_wp2_with (at_builtin; refine wpList_append_lies _ rfl _ _ _ rfl (w1.heap.size + 1) 2 it0 _ 1 8 Tryd.underlying26 hi0 hz0 hz1 hz2 rfl (by omega) pv k _ rfl ((ownsRow_setCell_other HP3.out (fun e => by have := (HP3.out.lt _ e).1; dsimp only at this; omega) _).alloc _) ⟨w3.heap.size, 0, none⟩ 1 1 [.int .i64 1] rfl rfl (World.news_of_block (cs := #[.int .i64 1]) (t := 2) (fr := (0, 0)) (K.block_new (by simp))) (by simp [Value.oneCell']) (by omega) (by unfold maxLen; omega) (by omega) (by simp; omega) (w3.heap.size + 1) (by simp) ?_; intro g5 gcap5 w5 hown5 hgrow5 hat5 hlt5; have HR5 : Hid (∀ g, pv.ownBlock = some g → w1.heap.size + 1 ≤ g) := Z.hide (fun g hg => (HP3.out.lt g hg).1); have HP5 := Z.hide hown5; have HX5 : Hid (K.Ext w1 w5) := Z.hide (((HX3.out.setCell (by dsimp only; omega) _).alloc _).below.grown hgrow5 (by simp; omega) (fun g hg => by have := HR5.out g hg; omega)); have D5 : Hid (w5.heap[w1.heap.size]? = some (.cells #[.int .i64 d, .int .i64 t, .string (N ++ SA), pv] 28)) := Z.hide (K.grown_block hgrow5 (K.Ext.block_of (Joins.block_setCell D2.out _) ((K.Ext.refl _).alloc _)) (fun e => by have := HR5.out _ e.symm; omega)); have E5 : Hid (w5.heap[w.heap.size]? = some (.cells #[.int .i64 0, .int .i64 0, .string ⟨#[]⟩, .slice none 0 0] 28)) := Z.hide (K.grown_block hgrow5 (K.Ext.block_of ((K.set_block' (by dsimp only; omega)).trans D1.out) ((K.Ext.refl _).alloc _)) (fun e => by have := HR5.out _ e.symm; omega)); have d3' : w5.cell? ⟨w1.heap.size, 3, none⟩ = some pv := K.cell_at D5.out rfl; have e3' : w5.frozen? ⟨w1.heap.size, 3, none⟩ = false := K.thaw_at D5.out; have lg5 := (HP5.out.lt g5 rfl).1; clear hown5 hgrow5 hat5)
            go_roundw
            case rel =>
              refine ⟨k + 1, N ++ SA, P ++ [1], _, by omega, by go_num, rfl, by rw [ByteArray.size_append, hN, hA1'], by simp; omega, Z.hide (Joins.block_setCell D5.out _), Z.hide ?_, Z.hide (HX5.out.setCell (by dsimp only; omega) _), Z.hide ((K.set_block' (by dsimp only; omega)).trans E5.out), Z.hide ?_⟩
              · rw [List.map_append, List.map_singleton]; exact ownsRow_setCell_other HP5.out (by simp [Value.ownBlock]; omega) _
              · rw [Z.append_bytes, HSA.out, Z.str_bytes]; exact Z.RdI.next HSP.out HI.out hkp (by rw [← HPK.out]; exact HRD.out)
            case measure => first | (simp [intOf]; done) | (simp [intOf]; omega)
          · have hA1' : ((SA.size : Int) == 1) = false := by rw [beq_eq_false_iff_ne]; omega
            have hA2 : ¬ SA.size = 1 := by omega
            have HR : Hid (Z.FmR s Z.zeroFm false) := Z.hide (Z.RdI.bad HSP.out hkp (by rw [← HPK.out, HRD.out]; simp; omega))
            have D1 := Z.hide (K.Ext.block_of B3.out f3)
            obtain ⟨⟨r0, r1, r2, r3⟩, ⟨t0, t1, t2, t3⟩, l3⟩ := K.box4 D1.out
            go_wp2
            refine bodyPost_ret (v := .tuple #[.agg #[.int .i64 0, .int .i64 0, .string ⟨#[]⟩, .slice none 0 0], .bool false]) (by unfold results; rw [Tryd.results49]; go_simp) rfl ⟨⟨Z.zeroFm, false, _, rfl, HR.out, K.own_nil _ _ _⟩, ?_⟩
            repeat with_reducible refine K.Ext.setCell ?_ (by dsimp only; omega) _
            exact F1.trans (HX.out.trans f3)
        · go_wp2_with fail
          refine K.call (by with_reducible rfl) (by with_reducible rfl) (HNum _ (HLV.out.ext (F1.trans (HX.out.trans f3)))) ?_
          rintro e w4 ⟨rfl, f4⟩
          have f34 := f3.trans f4
          have lw4 := f4.size
          clear HNum
          cases bx
          · have HR : Hid (Z.FmR s Z.zeroFm false) := Z.hide (Z.RdI.bad HSP.out hkp (by rw [← HPK.out, HRD.out]; simp))
            have D1 := Z.hide (K.Ext.block_of B3.out f34)
            obtain ⟨⟨r0, r1, r2, r3⟩, ⟨t0, t1, t2, t3⟩, l3⟩ := K.box4 D1.out
            go_wp2
            refine bodyPost_ret (v := .tuple #[.agg #[.int .i64 0, .int .i64 0, .string ⟨#[]⟩, .slice none 0 0], .bool false]) (by unfold results; rw [Tryd.results49]; go_simp) rfl ⟨⟨Z.zeroFm, false, _, rfl, HR.out, K.own_nil _ _ _⟩, ?_⟩
            repeat with_reducible refine K.Ext.setCell ?_ (by dsimp only; omega) _
            exact F1.trans (HX.out.trans f34)
          · by_cases hA1 : A.length = 1
            · have hA1' : SA.size = 1 := by omega
              have D2 := Z.hide (K.Ext.block_of C3.out f34)
              have D1 := Z.hide (K.Ext.block_of B3.out f34)
              have HX3 := Z.hide (HX.out.trans f34)
              have HP3 := Z.hide (K.row_ext HO.out f34)
              obtain ⟨⟨v0, v1, v2, v3⟩, ⟨u0, u1, u2, u3⟩, m3⟩ := K.box4 D2.out
              go_wp2_with (at_builtin; refine wpList_append_lies _ rfl _ _ _ rfl (w1.heap.size + 1) 2 it0 _ 1 8 Tryd.underlying26 hi0 hz0 hz1 hz2 rfl (by omega) pv k _ rfl ((ownsRow_setCell_other HP3.out (fun e => by have := (HP3.out.lt _ e).1; dsimp only at this; omega) _).alloc _) ⟨w4.heap.size, 0, none⟩ 1 1 [.int .i64 x] rfl rfl (World.news_of_block (cs := #[.int .i64 x]) (t := 2) (fr := (0, 0)) (K.block_new (by simp))) (by simp [Value.oneCell']) (by omega) (by unfold maxLen; omega) (by omega) (by simp; omega) (w4.heap.size + 1) (by simp) ?_; intro g5 gcap5 w5 hown5 hgrow5 hat5 hlt5; have HR5 : Hid (∀ g, pv.ownBlock = some g → w1.heap.size + 1 ≤ g) := Z.hide (fun g hg => (HP3.out.lt g hg).1); have HP5 := Z.hide hown5; have HX5 : Hid (K.Ext w1 w5) := Z.hide (((HX3.out.setCell (by dsimp only; omega) _).alloc _).below.grown hgrow5 (by simp; omega) (fun g hg => by have := HR5.out g hg; omega)); have D5 : Hid (w5.heap[w1.heap.size]? = some (.cells #[.int .i64 d, .int .i64 t, .string (N ++ SA), pv] 28)) := Z.hide (K.grown_block hgrow5 (K.Ext.block_of (Joins.block_setCell D2.out _) ((K.Ext.refl _).alloc _)) (fun e => by have := HR5.out _ e.symm; omega)); have E5 : Hid (w5.heap[w.heap.size]? = some (.cells #[.int .i64 0, .int .i64 0, .string ⟨#[]⟩, .slice none 0 0] 28)) := Z.hide (K.grown_block hgrow5 (K.Ext.block_of ((K.set_block' (by dsimp only; omega)).trans D1.out) ((K.Ext.refl _).alloc _)) (fun e => by have := HR5.out _ e.symm; omega)); have d3' : w5.cell? ⟨w1.heap.size, 3, none⟩ = some pv := K.cell_at D5.out rfl; have e3' : w5.frozen? ⟨w1.heap.size, 3, none⟩ = false := K.thaw_at D5.out; have lg5 := (HP5.out.lt g5 rfl).1; clear hown5 hgrow5 hat5)
              go_roundw
              case rel =>
                refine ⟨k + 1, N ++ SA, P ++ [x], _, by omega, by go_num, rfl, by rw [ByteArray.size_append, hN, hA1'], by simp; omega, Z.hide (Joins.block_setCell D5.out _), Z.hide ?_, Z.hide (HX5.out.setCell (by dsimp only; omega) _), Z.hide ((K.set_block' (by dsimp only; omega)).trans E5.out), Z.hide ?_⟩
                · rw [List.map_append, List.map_singleton]; exact ownsRow_setCell_other HP5.out (by simp [Value.ownBlock]; omega) _
                · rw [Z.append_bytes, HSA.out, Z.str_bytes]; exact Z.RdI.next HSP.out HI.out hkp (by rw [← HPK.out]; exact HRD.out)
              case measure => first | (simp [intOf]; done) | (simp [intOf]; omega)
            · have hA1' : ((SA.size : Int) == 1) = false := by rw [beq_eq_false_iff_ne]; omega
              have hA2 : ¬ SA.size = 1 := by omega
              have HR : Hid (Z.FmR s Z.zeroFm false) := Z.hide (Z.RdI.bad HSP.out hkp (by rw [← HPK.out, HRD.out]; simp; omega))
              have D1 := Z.hide (K.Ext.block_of B3.out f34)
              obtain ⟨⟨r0, r1, r2, r3⟩, ⟨t0, t1, t2, t3⟩, l3⟩ := K.box4 D1.out
              go_wp2
              refine bodyPost_ret (v := .tuple #[.agg #[.int .i64 0, .int .i64 0, .string ⟨#[]⟩, .slice none 0 0], .bool false]) (by unfold results; rw [Tryd.results49]; go_simp) rfl ⟨⟨Z.zeroFm, false, _, rfl, HR.out, K.own_nil _ _ _⟩, ?_⟩
              repeat with_reducible refine K.Ext.setCell ?_ (by dsimp only; omega) _
              exact F1.trans (HX.out.trans f34)
      · obtain rfl : k = m := by omega
        have HOw := Z.hide (K.own_of_row HO.out)
        have hs_ := HOw.out
        obtain ⟨os, cs, rfl, _⟩ := hs_
        have lw := HX.out.size
        have HIF : ∀ w', K.Ext wr w' → Calls Tryd.prog 42 #[.agg #[.int .i64 d, .int .i64 t, .string N, .slice os P.length cs]] w' fun e w'' => e = .returned (.bool (Z.isFormula ⟨d, t, N, P⟩)) ∧ K.Ext w' w'' := fun w' hx => impl_IsFormula ⟨d, t, N, P⟩ w' (by show P.length ≤ _; omega) (by show N.size ≤ _; omega) (K.ints.ext (K.own.ints HOw.out) hx)
        have HOk : Hid (K.own wr (w1.heap.size + 1) wr.heap.size (.slice os k cs) P) := Z.hide (by have h_ := HOw.out; rwa [hP] at h_)
        rw [hP] at HIF
        obtain ⟨⟨v0, v1, v2, v3⟩, ⟨u0, u1, u2, u3⟩, m3⟩ := K.box4 C3.out
        cases hv : Z.isFormula ⟨d, t, N, P⟩
        · have HR : Hid (Z.FmR s Z.zeroFm false) := Z.hide (Z.RdI.none HI.out (.inl hv))
          rw [hv] at HIF
          go_wp2_with fail
          refine K.call (by with_reducible rfl) (by with_reducible rfl) (HIF _ (K.Ext.refl _)) ?_
          rintro e w3 ⟨rfl, f3⟩
          have D1 := Z.hide (K.Ext.block_of B3.out f3)
          obtain ⟨⟨r0, r1, r2, r3⟩, ⟨t0, t1, t2, t3⟩, l3⟩ := K.box4 D1.out
          go_wp2
          refine bodyPost_ret (v := .tuple #[.agg #[.int .i64 0, .int .i64 0, .string ⟨#[]⟩, .slice none 0 0], .bool false]) (by unfold results; rw [Tryd.results49]; go_simp) rfl ⟨⟨Z.zeroFm, false, _, rfl, HR.out, K.own_nil _ _ _⟩, ?_⟩
          repeat with_reducible refine K.Ext.setCell ?_ (by dsimp only; omega) _
          exact F1.trans (HX.out.trans f3)
        · rw [hv] at HIF
          have HV := Z.hide (Z.valid_parts hv)
          have HFT : ∀ w', K.Ext wr w' → Calls Tryd.prog 43 #[.agg #[.int .i64 d, .int .i64 t, .string N, .slice os P.length cs]] w' fun e w'' => e = .returned (.string (Z.fmText ⟨d, t, N, P⟩)) ∧ K.Ext w' w'' := fun w' hx => formulaText_any ⟨d, t, N, P⟩ w' HV.out.1.1 HV.out.1.2 HV.out.2.1.1 HV.out.2.1.2 HV.out.2.2.1 HV.out.2.2.2.1 HV.out.2.2.2.2 (K.ints.ext (K.own.ints HOw.out) hx) (HLV.out.ext (F1.trans (HX.out.trans hx))).t
          rw [hP] at HFT
          obtain ⟨D, hD⟩ : ∃ D, D = Z.fmText ⟨d, t, N, P⟩ := ⟨_, rfl⟩
          have HD := Z.hide hD
          have HVV := Z.hide hv
          rw [← hD] at HFT
          clear hD hv
          have hbq := K.str_beq D s
          go_wp2_with fail
          refine K.call (by with_reducible rfl) (by with_reducible rfl) (HIF _ (K.Ext.refl _)) ?_
          rintro e w3 ⟨rfl, f3⟩
          have C4 := Z.hide (K.Ext.block_of C3.out f3)
          have D1 := Z.hide (K.Ext.block_of B3.out f3)
          obtain ⟨⟨a0, a1, a2, a3⟩, ⟨b0, b1, b2, b3⟩, m4⟩ := K.box4 C4.out
          go_wp2_with fail
          refine K.call (by with_reducible rfl) (by with_reducible rfl) (HFT _ f3) ?_
          rintro e w4 ⟨rfl, f4⟩
          have C5 := Z.hide (K.Ext.block_of C4.out f4)
          have D2 := Z.hide (K.Ext.block_of D1.out f4)
          obtain ⟨⟨x0, x1, x2, x3⟩, ⟨y0, y1, y2, y3⟩, m5⟩ := K.box4 C5.out
          obtain ⟨⟨r0, r1, r2, r3⟩, ⟨t0, t1, t2, t3⟩, l3⟩ := K.box4 D2.out
          have HX4 := Z.hide (F1.trans (HX.out.trans (f3.trans f4)))
          by_cases heq : D = s
          · have HR : Hid (Z.FmR s ⟨d, t, N, P⟩ true) := Z.hide (Z.RdI.done HI.out HVV.out (by rw [← HD.out]; exact heq))
            rw [decide_eq_true heq] at hbq
            clear heq
            go_wp2
            refine bodyPost_ret (v := .tuple #[.agg #[.int .i64 d, .int .i64 t, .string N, .slice os k cs], .bool true]) (by unfold results; rw [Tryd.results49]; go_simp) rfl ⟨⟨⟨d, t, N, P⟩, true, _, rfl, HR.out, ?_⟩, ?_⟩
            · refine K.own.mono (lo := w1.heap.size + 1) (hi := wr.heap.size) ?_ (by omega) (by have := f3.size; have := f4.size; simp; omega)
              repeat with_reducible refine K.own.set ?_ _ (.inl (by dsimp only; omega)) _
              exact K.own.ext (K.own.ext HOk.out f3) f4
            · repeat with_reducible refine K.Ext.setCell ?_ (by dsimp only; omega) _
              exact HX4.out
          · have HR : Hid (Z.FmR s Z.zeroFm false) := Z.hide (Z.RdI.none HI.out (.inr (by rw [← HD.out]; exact heq)))
            rw [decide_eq_false heq] at hbq
            clear heq
            go_wp2
            refine bodyPost_ret (v := .tuple #[.agg #[.int .i64 0, .int .i64 0, .string ⟨#[]⟩, .slice none 0 0], .bool false]) (by unfold results; rw [Tryd.results49]; go_simp) rfl ⟨⟨Z.zeroFm, false, _, rfl, HR.out, K.own_nil _ _ _⟩, ?_⟩
            repeat with_reducible refine K.Ext.setCell ?_ (by dsimp only; omega) _
            exact HX4.out
set_option maxHeartbeats 1600000 in
theorem impl_ReadFormulaR (s : ByteArray) (w : World) (hs : s.size ≤ 1048576) (hL : LV w) :
    Calls Tryd.prog 15 #[.string s] w fun e w' => (∃ (F : Z.Fm) (ok : Bool) (p : Value), e = .returned (.tuple #[.agg #[.int .i64 F.dg, .int .i64 F.tn, .string F.nm, p], .int .i64 (Z.okCode ok)]) ∧ Z.FmR s F ok ∧ K.own w' w.heap.size w'.heap.size p F.pw) ∧ K.Ext w w' := by
  have HL := Z.hide hL
  clear hL
  go_enter Tryd.func15, Tryd.ntmps15
  go_wp2_with fail
  refine K.call (by with_reducible rfl) (by with_reducible rfl) (readFormula_any s _ hs (HL.out.ext (by repeat' (first | with_reducible exact K.Ext.refl _ | with_reducible assumption | with_reducible refine K.Ext.drew ?_ | with_reducible refine K.Ext.alloc ?_ _ | with_reducible refine K.Ext.setCell ?_ ?_ _ | with_reducible refine K.Ext.trans ?_ (by with_reducible assumption) | (dsimp only; omega) | omega | exact K.Ext.refl _ | assumption | apply K.Ext.drew | refine K.Ext.alloc ?_ _ | refine K.Ext.setCell ?_ ?_ _ | (simp; done) | (simp; omega) | refine K.Ext.trans ?_ (by assumption))))) ?_
  rintro e w1 ⟨⟨F, ok, p, rfl, hR, hO⟩, f1⟩
  have F1 : K.Ext w w1 := ((K.Ext.refl _).alloc _).trans f1
  have B1 := Z.hide (K.Ext.block_of (K.block_new (w := w) (o := .cells #[.int .i64 0, .int .i64 0, .string ⟨#[]⟩, .slice none 0 0] 28) rfl) f1)
  obtain ⟨⟨r0, r1, r2, r3⟩, ⟨t0, t1, t2, t3⟩, l3⟩ := K.box4 B1.out
  have HRR := Z.hide hR
  have HOO := Z.hide hO
  obtain ⟨o, cap, rfl, _⟩ := hO
  have ne1 : w1.heap.size ≠ w.heap.size := by omega
  have ne2 : w.heap.size ≠ w1.heap.size := by omega
  cases ok
  · have hz := hR.zero rfl
    subst hz
    clear hR
    go_wp2
    refine bodyPost_ret (v := .tuple #[.agg #[.int .i64 0, .int .i64 0, .string ⟨#[]⟩, .slice none 0 0], .int .i64 6]) (by unfold results; rw [Tryd.results15]; go_simp) rfl ⟨⟨Z.zeroFm, false, _, rfl, HRR.out, K.own_nil _ _ _⟩, ?_⟩
    refine K.Ext.alloc ?_ _
    repeat with_reducible refine K.Ext.setCell ?_ (by dsimp only; omega) _
    exact F1
  · clear hR
    go_wp2
    refine bodyPost_ret (v := .tuple #[.agg #[.int .i64 F.dg, .int .i64 F.tn, .string F.nm, .slice o F.pw.length cap], .int .i64 0]) (by unfold results; rw [Tryd.results15]; go_simp) rfl ⟨⟨F, true, _, rfl, HRR.out, ?_⟩, ?_⟩
    · refine K.own.mono (lo := w.heap.size + 1) (hi := w1.heap.size) ?_ (by omega) (by simp)
      refine K.own.ext ?_ ((K.Ext.refl _).alloc _)
      repeat with_reducible refine K.own.set ?_ _ (.inl (by dsimp only; omega)) _
      have h_ := HOO.out
      simp only [World.size_alloc] at h_
      exact h_
    · refine K.Ext.alloc ?_ _
      repeat with_reducible refine K.Ext.setCell ?_ (by dsimp only; omega) _
      exact F1
end Go.Proofs.YtbloldnmlhhbhaaDoor
end
section
namespace Go.K
open Go.RowKit
/-- what a call on the source may do -/
def RG (T : TypeId) (g : Nat) : Rel := ⟨fun w w' => Far g (g + 1) w w' ∧ (Src T w g → Src T w' g),
  fun a => ⟨Far.refl _ _ _, fun h => h⟩, fun _ _ _ h k => ⟨h.1.trans k.1, fun x => k.2 (h.2 x)⟩, fun _ _ h => ⟨Far.of_ext h, fun x => x.ext h⟩, fun _ _ h => h.1.size, g + 1,
  fun a b' k o h hk ho => by rw [h.1.block k (Array.getElem?_eq_some_iff.1 ho).1 (.inr hk)]; exact ho⟩
/-- a number below n -/
def SQ.lt_ {T : TypeId} {g : Nat} (n : Int) : SQ (RG T g) := SQ.of' (fun v _ => ∃ r : Int, v = .int .i64 r ∧ 0 ≤ r ∧ r < n) (fun _ _ _ _ x => x)
/-- a pointer to a string of one byte -/
def SQ.at1 {T : TypeId} {g : Nat} : SQ (RG T g) := SQ.of' (fun v w => ∃ (b i : Nat) (S : ByteArray), v = .pointer (some ⟨b, i, none⟩) ∧ w.cell? ⟨b, i, none⟩ = some (.string S) ∧ S.size = 1 ∧ g + 1 ≤ b) (fun _ _ _ h ⟨b, i, S, h1, h2, h3, h4⟩ => ⟨b, i, S, h1, h.1.cell_of h2 (.inr h4), h3, h4⟩)
/-- a string of one byte -/
def SQ.s1 {T : TypeId} {g : Nat} : SQ (RG T g) := SQ.of' (fun v _ => ∃ S : ByteArray, v = .string S ∧ S.size = 1) (fun _ _ _ _ x => x)
section steps
variable {R : Rel} {P : Program} {ops : Array Oper} {W : World} {ks : List Nat} {vs : List (SQ R)} {T : Act → World → Prop} {k : Nat} {o : Oper} {rest : List Oper} {s : Nat → Option Value} {a : Act} {w : World}
/-- an operation that leaves the world; its value fulfils a predicate -/
theorem y_tell (q : Value → World → Prop) (hw : Region.wanted o (yielded ops a.tmps) = true) (hk : ks.getD k 0 = 2) (hn : (vs.getD k SQ.any).nw = false) (hq : (vs.getD k SQ.any).p = q)
    (hrun : ∀ w', R.r W w' → (∀ j v, edge o j = true → ks.getD j 0 = 2 → s j = some v → qvals vs j v w') → ∃ v, (execOp a.eval o).run P w' = .ok (.value v) w' ∧ q v w')
    (h : ∀ v w', R.r w w' → q v w' → WalkY P ops W ks vs T (k + 1) rest (upd s k (some v)) (a.put o.dst v) w') : WalkY P ops W ks vs T k (o :: rest) s a w :=
  ⟨K2.Walk.told hw hk (fun w' _ hx hp => by
      obtain ⟨v, hr, hv⟩ := hrun w' hx hp
      rw [hr]
      exact ⟨trivial, R.re _, by unfold qvals; rw [hq]; exact hv, qApart vs hn _ _⟩)
    (fun v w' _ hx hv _ => (h v w' hx (by unfold qvals at hv; rw [hq] at hv; exact hv)).out)⟩
/-- a call whose value fulfils a predicate -/
theorem y_callq {f : FuncId} {args : Array Value} (q : Value → World → Prop) (hw : Region.wanted o (yielded ops a.tmps) = true) (hk : ks.getD k 0 = 2) (hn : (vs.getD k SQ.any).nw = false) (hq : (vs.getD k SQ.any).p = q) (hrun : ∀ w', (execOp a.eval o).run P w' = .ok (.enter f args) w')
    (hcall : ∀ w', R.r W w' → Calls P f args w' fun e w'' => ∃ v, e = .returned v ∧ R.r w' w'' ∧ q v w'')
    (h : ∀ v w', R.r w w' → q v w' → WalkY P ops W ks vs T (k + 1) rest (upd s k (some v)) (a.put o.dst v) w') : WalkY P ops W ks vs T k (o :: rest) s a w :=
  y_call hw hk hn hrun (fun w' hx hp => (hcall w' hx).mono fun e w'' ⟨v, he, hx', hv⟩ => ⟨v, he, hx', by unfold qvals; rw [hq]; exact hv⟩)
    (fun v w' hx hv => h v w' hx (by unfold qvals at hv; rw [hq] at hv; exact hv))
end steps
theorem sum_size (a b : ByteArray) : (a ++ b).size = a.size + b.size := ByteArray.size_append
theorem cut_size (a : ByteArray) {i j : Nat} (h : i ≤ j) (h2 : j ≤ a.size) : (a.extract i j).size = j - i := by rw [ByteArray.size_extract]; omega
end Go.K
namespace Go.Proofs.YtbloldnmlhhbhaaDoor
open Go.RowKit
set_option maxRecDepth 100000 in
set_option maxHeartbeats 6400000 in
theorem l01Damage_any (g : Nat) (t : ByteArray) (w : World) (ht : t.size ≤ 100000) (h : K.Src 97 w g) :
    Calls Tryd.prog 48 #[.pointer (some ⟨g, 0, none⟩), .string t] w fun e w' => (∃ u : ByteArray, e = .returned (.string u) ∧ u.size ≤ t.size + 1) ∧ K.Src 97 w' g ∧ K.Far g (g + 1) w w' := by
  have lg := h.lt
  have F0 : K.Far g (g + 1) w w := K.Far.refl _ _ _
  go_enter Tryd.func48, Tryd.ntmps48
  go_wp2_with fail
  refine K.call (by with_reducible rfl) (by with_reducible rfl) (l01Next_any g _ _ (K.bsr h)) ?_
  rintro e w1 ⟨⟨r, rfl, r0, r1, r2⟩, s1, f1⟩
  have z1 := f1.size
  obtain ⟨k, rfl⟩ : ∃ k : Nat, r = (k : Int) := ⟨r.toNat, by omega⟩
  have hk : k ≤ t.size := by omega
  have k0 : (0 : Int) ≤ (k : Int) := Int.natCast_nonneg k
  have k1 : (k : Int) ≤ (t.size : Int) := by omega
  clear r1
  go_wp2_with fail
  refine K.call (by with_reducible rfl) (by with_reducible rfl) (l01Next_any g 8 _ (K.bsr s1)) ?_
  rintro e w2 ⟨⟨n, rfl, n0, n1, n2⟩, s2, f2⟩
  have z2 := f2.size
  have F2 : K.Far g (g + 1) w w2 := f1.trans f2
  have cA := Z.hide (K.cut_size t (Nat.zero_le k) hk)
  have cB := Z.hide (K.cut_size t hk (Nat.le_refl _))
  by_cases e0 : n = 0
  · subst e0
    go_wp2
    go_ret
    exact ⟨⟨_, rfl, by have := cA.out; omega⟩, s2, F2⟩
  · by_cases e1 : n = 1
    · subst e1
      go_wp2_with fail
      refine K.wp_region_y (R := K.RG 97 g) 13 [0, 0, 0, 2, 0, 2, 2, 2, 0, 0, 0, 0, 0] [K.SQ.any, K.SQ.any, K.SQ.any, K.SQ.sl 8 (g + 1) (Nat.le_refl _) (.cells #[.string ⟨#[48]⟩, .string ⟨#[35]⟩, .string ⟨#[46]⟩, .string ⟨#[47]⟩, .string ⟨#[32]⟩, .string ⟨#[97]⟩, .string ⟨#[45]⟩, .string ⟨#[10]⟩] 9), K.SQ.any, K.SQ.lt_ 8, K.SQ.at1, K.SQ.s1] (by kernel_rfl) (by kernel_rfl) ?_
      simp only [List.take_succ_cons, List.take_zero, List.drop_succ_cons, List.drop_zero]
      apply K.y_pure
      · rfl
      · rfl
      · intro w'; go_simp; first | done | exact K.vint (IntWalk.i64_in _ (by omega)) | rfl | exact ⟨rfl, rfl⟩
      simp only [Act.put, List.setIfInBounds_toArray, List.set]
      apply K.y_pure
      · rfl
      · rfl
      · intro w'; go_simp; first | done | exact K.vint (IntWalk.i64_in _ (by omega)) | rfl | exact ⟨rfl, rfl⟩
      simp only [Act.put, List.setIfInBounds_toArray, List.set]
      apply K.y_pure
      · rfl
      · rfl
      · intro w'; go_simp; first | done | exact K.vint (IntWalk.i64_in _ (by omega)) | rfl | exact ⟨rfl, rfl⟩
      simp only [Act.put, List.setIfInBounds_toArray, List.set]
      generalize t.extract 0 k = A at *
      apply K.y_newsl (Nat.le_refl _)
      · rfl
      · rfl
      · rfl
      · show g + 1 ≤ w2.heap.size; omega
      · intro w'; go_simp; first | done | rfl | exact ⟨rfl, rfl⟩
      intro g3 w_3 hx_3 hg3 hb_3 hn_3
      simp only [Act.put, List.setIfInBounds_toArray, List.set]
      apply K.y_pure
      · rfl
      · rfl
      · intro w'; go_simp; first | done | exact K.vint (IntWalk.i64_in _ (by omega)) | rfl | exact ⟨rfl, rfl⟩
      simp only [Act.put, List.setIfInBounds_toArray, List.set]
      apply K.y_callq (K.SQ.lt_ 8).p
      · rfl
      · rfl
      · rfl
      · rfl
      · intro w'; go_simp; first | done | rfl | exact ⟨rfl, rfl⟩
      · intro w' hx
        exact (l01Next_any g 8 w' (hx.2 s2.drew)).mono fun e w'' ⟨⟨r, he, a0, a1, a2⟩, hs, hf⟩ => ⟨_, he, ⟨hf, fun _ => hs⟩, ⟨r, rfl, a0, by omega⟩⟩
      intro v5 w_5 hx_5 hq5
      obtain ⟨r5, rfl, p0, p1⟩ := hq5
      obtain ⟨i, rfl⟩ : ∃ i : Nat, r5 = (i : Int) := ⟨r5.toNat, by omega⟩
      have hi8 : i < 8 := by omega
      simp only [Act.put, List.setIfInBounds_toArray, List.set]
      apply K.y_tell (K.SQ.at1).p
      · rfl
      · rfl
      · rfl
      · rfl
      · intro w' hx hp
        obtain ⟨g', hv, hg', hb'⟩ := (show K.NewB (g + 1) (K.slAt 8) _ _ w' from hp 3 _ (by kernel_rfl) rfl rfl)
        obtain rfl : g3 = g' := by simp only [K.slAt, Value.slice.injEq, Option.some.injEq, Addr.mk.injEq, and_true] at hv; exact hv
        have hc : ∃ S : ByteArray, w'.cell? ⟨g3, i, none⟩ = some (.string S) ∧ S.size = 1 := by
          match i, hi8 with
          | 0, _ => exact ⟨_, K.cell_at hb' rfl, rfl⟩
          | 1, _ => exact ⟨_, K.cell_at hb' rfl, rfl⟩
          | 2, _ => exact ⟨_, K.cell_at hb' rfl, rfl⟩
          | 3, _ => exact ⟨_, K.cell_at hb' rfl, rfl⟩
          | 4, _ => exact ⟨_, K.cell_at hb' rfl, rfl⟩
          | 5, _ => exact ⟨_, K.cell_at hb' rfl, rfl⟩
          | 6, _ => exact ⟨_, K.cell_at hb' rfl, rfl⟩
          | 7, _ => exact ⟨_, K.cell_at hb' rfl, rfl⟩
        obtain ⟨S, hc, hS⟩ := hc
        refine ⟨.pointer (some ⟨g3, i, none⟩), ?_, ⟨g3, i, S, rfl, hc, hS, hg'⟩⟩
        clear hb' hc hv
        go_simp
        all_goals first | rfl | exact ⟨rfl, rfl⟩
      intro v6 w_6 hx_6 hq6
      obtain ⟨b6, j6, _, rfl, _, _, _⟩ := hq6
      simp only [Act.put, List.setIfInBounds_toArray, List.set]
      apply K.y_tell (K.SQ.s1).p
      · rfl
      · rfl
      · rfl
      · rfl
      · intro w' hx hp
        obtain ⟨b', j', S, hv, hc, hS, _⟩ := (show (K.SQ.at1 (T := 97) (g := g)).p _ w' from hp 6 _ (by kernel_rfl) rfl rfl)
        simp only [Value.pointer.injEq, Option.some.injEq, Addr.mk.injEq, and_true] at hv
        obtain ⟨rfl, rfl⟩ := hv
        refine ⟨.string S, ?_, ⟨S, rfl, hS⟩⟩
        go_simp
        all_goals first | rfl | exact ⟨rfl, rfl⟩
      intro v7 w_7 hx_7 hq7
      obtain ⟨S, rfl, hS⟩ := hq7
      have HS1 := Z.hide hS
      have o1 : ¬ (9223372036854775807 < A.size + S.size) := by have := cA.out; omega
      have HAS : Hid ((A ++ S).size = k + 1) := Z.hide (by have := cA.out; rw [K.sum_size]; omega)
      clear hS
      simp only [Act.put, List.setIfInBounds_toArray, List.set]
      apply K.y_pure
      · rfl
      · rfl
      · intro w'; go_simp; first | done | exact K.vint (IntWalk.i64_in _ (by omega)) | rfl | exact ⟨rfl, rfl⟩
      simp only [Act.put, List.setIfInBounds_toArray, List.set]
      generalize A ++ S = AS at *
      apply K.y_pure
      · rfl
      · rfl
      · intro w'; go_simp; first | done | exact K.vint (IntWalk.i64_in _ (by omega)) | rfl | exact ⟨rfl, rfl⟩
      simp only [Act.put, List.setIfInBounds_toArray, List.set]
      apply K.y_pure
      · rfl
      · rfl
      · intro w'; go_simp; first | done | exact K.vint (IntWalk.i64_in _ (by omega)) | rfl | exact ⟨rfl, rfl⟩
      simp only [Act.put, List.setIfInBounds_toArray, List.set]
      apply K.y_pure
      · rfl
      · rfl
      · intro w'; go_simp; first | done | exact K.vint (IntWalk.i64_in _ (by omega)) | rfl | exact ⟨rfl, rfl⟩
      simp only [Act.put, List.setIfInBounds_toArray, List.set]
      generalize t.extract k t.size = B at *
      have o2 : ¬ (9223372036854775807 < AS.size + B.size) := by have := cB.out; have := HAS.out; omega
      apply K.y_pure
      · rfl
      · rfl
      · intro w'; go_simp; first | done | exact K.vint (IntWalk.i64_in _ (by omega)) | rfl | exact ⟨rfl, rfl⟩
      simp only [Act.put, List.setIfInBounds_toArray, List.set]
      apply K.y_done
      intro w3 h3
      have hf := (((hx_3.1.trans hx_5.1).trans hx_6.1).trans hx_7.1).trans h3.1
      have hs3 := h3.2 (hx_7.2 (hx_6.2 (hx_5.2 (hx_3.2 s2.drew))))
      have F3 : K.Far g (g + 1) w w3 := (F2.drew).trans hf
      have hsz : (AS ++ B).size ≤ t.size + 1 := by have := cB.out; have := HAS.out; rw [K.sum_size]; omega
      go_wp2_with fail
      refine NoPanic.normal ?_
      go_wp2
      go_ret
      exact ⟨⟨_, rfl, hsz⟩, hs3, F3⟩
    · by_cases e2 : n = 2
      · subst e2
        by_cases hkt : k < t.size
        · have k2 : (k : Int) < (t.size : Int) := by omega
          have k3 : (k : Int) + 1 ≤ (t.size : Int) := by omega
          have k4 : (0 : Int) ≤ (k : Int) + 1 := by omega
          have cC := Z.hide (K.cut_size t (show k + 1 ≤ t.size by omega) (Nat.le_refl _))
          have o1 : ¬ (9223372036854775807 < k + (t.size - (k + 1))) := by omega
          have osz : (t.extract 0 k ++ t.extract (k + 1) t.size).size ≤ t.size + 1 := by have := cA.out; have := cC.out; rw [K.sum_size]; omega
          have HSZ := Z.hide osz
          clear osz
          go_wp2_with fail
          refine K.wp_region_x 8 [0, 0, 0, 0, 0, 0, 0, 0] [] (by kernel_rfl) (by kernel_rfl) ?_
          simp only [List.take_succ_cons, List.take_zero, List.drop_succ_cons, List.drop_zero]
          iterate 8
            apply K.x_pure
            · rfl
            · rfl
            · intro w'; go_simp; first | done | exact K.vint (IntWalk.i64_in _ (by omega)) | rfl | exact ⟨rfl, rfl⟩
            simp only [Act.put, List.setIfInBounds_toArray, List.set]
          apply K.x_done
          intro w3 h_x
          have hx3 := K.Ext.id h_x
          clear h_x
          obtain ⟨⟨hcw3, hfw3⟩, hc'w3, hf'w3⟩ := hx3.all
          go_wp2_with fail
          refine NoPanic.normal ?_
          have X3 : K.Ext w2 w3 := ((K.Ext.refl _).drew).trans hx3
          go_wp2
          go_ret
          exact ⟨⟨_, rfl, HSZ.out⟩, s2.ext X3, F2.trans (K.Far.of_ext X3)⟩
        · have k2 : ¬ ((k : Int) < (t.size : Int)) := by omega
          go_wp2
          go_ret
          exact ⟨⟨_, rfl, by omega⟩, s2, F2⟩
      · go_wp2
        go_ret
        exact ⟨⟨_, rfl, by omega⟩, s2, F2⟩
end Go.Proofs.YtbloldnmlhhbhaaDoor
end
section
namespace Go.Z
theorem fmTextK_size {F : Fm} (hp : plainFm F) : ∀ k, k ≤ F.pw.length → (fmTextK F k).size ≤ 26 + 23 * k
  | 0, _ => by have := figText_size (t := F.tn) hp.1.1 hp.1.2 (by have := hp.2.1; omega) (by have := hp.2.1; omega); unfold fmTextK; omega
  | k + 1, h => by
    have ih := fmTextK_size hp k (by omega)
    have := hp.2.2.2 k (by omega)
    have hs := partText_size (nm := F.nm) (i := k) (by have := hp.2.2.1; omega) this.1 this.2
    unfold fmTextK
    rw [ByteArray.size_append]; omega
end Go.Z
namespace Go.Proofs.YtbloldnmlhhbhaaDoor
open Go.RowKit
set_option maxRecDepth 100000 in
set_option maxHeartbeats 12800000 in
theorem DrawFormulaText_any {hi n : Nat} {v : Value} (w : World) (hn : n ≤ 4096) (hh : hi ≤ w.heap.size) (h : K.byts w hi v n) :
    Calls Tryd.prog 11 #[v] w fun e w' => (∃ (F : Z.Fm) (p : Value), e = .returned (.agg #[.int .i64 F.dg, .int .i64 F.tn, .string F.nm, p]) ∧ (F.nm.size ≤ 7 ∧ F.pw.length ≤ 6) ∧ K.ints w' w.heap.size w'.heap.size p F.pw) ∧ K.Ext w w' := by
  have F0 : K.Ext w w := K.Ext.refl _
  go_enter Tryd.func11, Tryd.ntmps11
  go_wp2_with fail
  refine K.call (by with_reducible rfl) (by with_reducible rfl) (l01From_at (w.heap.size + 1) _ (by simp) hn (by omega) (h.ext (K.bex F0))) ?_
  rintro e w1 ⟨⟨rfl, s1⟩, f1⟩
  have z1 := f1.size
  (try simp at z1)
  have F1 : K.Ext w w1 := K.Ext.trans (K.bex F0) f1
  have c1_0_0 : w1.cell? ⟨w.heap.size, 0, none⟩ = some (.int .i64 0) := f1.cell_of (by go_simp)
  have d1_0_0 : w1.frozen? ⟨w.heap.size, 0, none⟩ = false := f1.thaw_of (by go_simp) (by go_simp)
  have c1_0_1 : w1.cell? ⟨w.heap.size, 1, none⟩ = some (.int .i64 0) := f1.cell_of (by go_simp)
  have d1_0_1 : w1.frozen? ⟨w.heap.size, 1, none⟩ = false := f1.thaw_of (by go_simp) (by go_simp)
  have c1_0_2 : w1.cell? ⟨w.heap.size, 2, none⟩ = some (.string ⟨#[]⟩) := f1.cell_of (by go_simp)
  have d1_0_2 : w1.frozen? ⟨w.heap.size, 2, none⟩ = false := f1.thaw_of (by go_simp) (by go_simp)
  have c1_0_3 : w1.cell? ⟨w.heap.size, 3, none⟩ = some (.slice none 0 0) := f1.cell_of (by go_simp)
  have d1_0_3 : w1.frozen? ⟨w.heap.size, 3, none⟩ = false := f1.thaw_of (by go_simp) (by go_simp)
  have y1_0 : w.heap.size < w1.heap.size := World.block_lt_of_cell? w1 _ c1_0_0
  have lg := s1.lt
  go_wp2_with fail
  refine K.call (by with_reducible rfl) (by with_reducible rfl) (l18Draw_any (w.heap.size + 1) _ (K.bsr s1)) ?_
  rintro e w2 ⟨⟨F, pF, rfl, hnF, hmF, hiF⟩, s2, f2⟩
  have z2 := f2.size
  (try simp at z2)
  have F2 : K.Ext w w2 := K.Far.ext (K.bex F1) f2 (by omega)
  obtain ⟨c2_0_0, c2_0_1, c2_0_2, c2_0_3, d2_0_0, d2_0_1, d2_0_2, d2_0_3, y2_0⟩ := f2.p4 c1_0_0 c1_0_1 c1_0_2 c1_0_3 d1_0_0 d1_0_1 d1_0_2 d1_0_3
  obtain ⟨oF, kF, rfl, _⟩ := id hiF
  have IF_2 : K.ints w2 (w1.heap.size) w2.heap.size (.slice oF F.pw.length kF) F.pw := hiF.mono (by simp) (Nat.le_refl _)
  clear hiF
  go_wp2_with fail
  all_goals refine bodyPost_ret (v := .agg #[.int .i64 F.dg, .int .i64 F.tn, .string F.nm, .slice oF F.pw.length kF]) (by unfold results; rw [Tryd.results11]; go_simp) rfl ⟨⟨F, _, rfl, ⟨hnF, hmF⟩, K.ints.mono (K.bin IF_2) (by omega) (by first | omega | (simp; done) | (simp; omega))⟩, (K.bex F2)⟩
set_option maxRecDepth 100000 in
set_option maxHeartbeats 12800000 in
theorem DrawReadFormula_any {hi n : Nat} {v : Value} (w : World) (hn : n ≤ 4096) (hh : hi ≤ w.heap.size) (h : K.byts w hi v n) :
    Calls Tryd.prog 14 #[v] w fun e w' => (∃ (s : ByteArray), e = .returned (.string s) ∧ s.size ≤ 5000) ∧ K.Ext w w' := by
  have F0 : K.Ext w w := K.Ext.refl _
  go_enter Tryd.func14, Tryd.ntmps14
  go_wp2_with fail
  refine K.call (by with_reducible rfl) (by with_reducible rfl) (l01From_at (w.heap.size) _ (by simp) hn (by omega) (h.ext (K.bex F0))) ?_
  rintro e w1 ⟨⟨rfl, s1⟩, f1⟩
  have z1 := f1.size
  (try simp at z1)
  have F1 : K.Ext w w1 := K.Ext.trans (K.bex F0) f1
  have lg := s1.lt
  go_wp2_with fail
  refine K.call (by with_reducible rfl) (by with_reducible rfl) (l18ValidX_any w.heap.size _ (K.bsr s1)) ?_
  rintro e w2 ⟨⟨F, pF, rfl, hnF, hmF, hpl, hiF⟩, s2, f2⟩
  have z2 := f2.size
  (try simp at z2)
  have F2 : K.Ext w w2 := K.Far.ext (K.bex F1) f2 (by omega)
  have HT0 := Z.fmTextK_size hpl F.nm.size (by rw [hpl.2.2.1]; exact Nat.le_refl _)
  go_wp2_with fail
  refine K.call (by with_reducible rfl) (by with_reducible rfl) (l18Text_any F _ hpl.1.1 hpl.1.2 (by have := hpl.2.1; omega) (by have := hpl.2.1; omega) hpl.2.2.1 (by omega) hpl.2.2.2 hiF) ?_
  rintro e w3 ⟨rfl, x3⟩
  have f3 : K.Far (w.heap.size) (w.heap.size + 1) _ w3 := K.Far.of_ext x3
  have s3 := K.Src.ext (K.bsr s2) x3
  have z3 := f3.size
  (try simp at z3)
  have F3 : K.Ext w w3 := K.Far.ext (K.bex F2) f3 (by omega)
  have HT : (Z.fmText F).size ≤ 26 + 23 * F.nm.size := HT0
  generalize Z.fmText F = T at *
  clear HT0
  go_wp2_with fail
  refine K.call (by with_reducible rfl) (by with_reducible rfl) (l01Next_any w.heap.size (3) _ (K.bsr s3)) ?_
  rintro e w4 ⟨⟨m, rfl, m0, m1, m2⟩, s4, f4⟩
  have z4 := f4.size
  (try simp at z4)
  have F4 : K.Ext w w4 := K.Far.ext (K.bex F3) f4 (by omega)
  by_cases m0_ : m = 0
  · subst m0_
    go_wp2_with fail
    refine K.call (by with_reducible rfl) (by with_reducible rfl) (l01Damage_any w.heap.size T _ (by omega) (K.bsr s4)) ?_
    rintro e w5 ⟨⟨u, rfl, hu⟩, s5, f5⟩
    have z5 := f5.size
    (try simp at z5)
    have F5 : K.Ext w w5 := K.Far.ext (K.bex F4) f5 (by omega)
    go_wp2_with fail
    refine bodyPost_ret (v := .string u) (by unfold results; rw [Tryd.results14]; go_simp) rfl ⟨⟨u, rfl, by omega⟩, (K.bex F5)⟩
  · skip
    go_wp2_with fail
    refine bodyPost_ret (v := .string T) (by unfold results; rw [Tryd.results14]; go_simp) rfl ⟨⟨T, rfl, by omega⟩, (K.bex F4)⟩
end Go.Proofs.YtbloldnmlhhbhaaDoor
end
section
namespace Go.Z
theorem splitC_sum (c : UInt8) : ∀ (l : List UInt8), ((splitC c l).map List.length).sum ≤ l.length
  | [] => by simp [splitC]
  | b :: l => by
    have ih := splitC_sum c l
    unfold splitC
    split
    · simp; omega
    · split
      · rename_i h; rw [h] at ih; simp
      · rename_i p r h; rw [h] at ih; simp at ih ⊢; omega
def sumTo (ps : List (List UInt8)) (k : Nat) : Nat := ((ps.take k).map List.length).sum
theorem sumTo_succ {ps : List (List UInt8)} {k : Nat} {p : List UInt8} (h : ps[k]? = some p) : sumTo ps (k + 1) = sumTo ps k + p.length := by
  unfold sumTo; rw [take_snoc h, List.map_append, List.sum_append]; simp
theorem sumTo_le (ps : List (List UInt8)) (k : Nat) : sumTo ps k ≤ (ps.map List.length).sum := by
  unfold sumTo
  conv => rhs; rw [← List.take_append_drop k ps, List.map_append, List.sum_append]
  omega
end Go.Z
namespace Go.Proofs.YtbloldnmlhhbhaaDoor
open Go.RowKit
theorem row_lit1 {w : World} {B g : Nat} {e : TypeId} (hg : g = w.heap.size) (hB : B ≤ g) : (w.alloc (.cells #[] e)).ownsRow B e 1 (.slice (some ⟨g, 0, none⟩) 0 0) 0 [] := by
  subst hg; exact World.ownsRow_lit w #[] 0 hB (by decide) rfl
theorem l01Split_parts (s : ByteArray) (c : UInt8) {p0 : List UInt8} {ps : List (List UInt8)} (hp : Z.splitC c s.data.toList = p0 :: ps) (w : World) (hs : s.size ≤ 1048576) :
    Calls Tryd.prog 50 #[.string s, .int .u8 (c.toNat : Int)] w fun e w' => (∃ b cap, e = .returned (.slice (some ⟨b, 0, none⟩) (ps.length + 1) cap) ∧ w.heap.size ≤ b ∧ w'.cell? ⟨b, 0, none⟩ = some (.string (Z.str p0)) ∧ (∀ j p, ps[j]? = some p → w'.cell? ⟨b, 1 + j, none⟩ = some (.string (Z.str p)))) ∧ K.Ext w w' := by
  refine (l01Split_any s c w hs).mono fun e w' ⟨⟨v, he, ho⟩, hw⟩ => ⟨?_, hw⟩
  rw [hp] at ho
  obtain ⟨b, cap, rfl, hb, _⟩ := ho.form (by simp)
  refine ⟨b, cap, by rw [he]; rfl, hb, ?_, fun j p hj => ?_⟩
  · have := ho.cellAt 0 (by simp)
    simpa [strVals] using this
  · obtain ⟨hj, rfl⟩ := List.getElem?_eq_some_iff.1 hj
    have := ho.cellAt (1 + j) (by simp; omega)
    rw [Nat.add_comm 1 j] at this ⊢
    simpa [strVals, hj] using this
set_option maxRecDepth 100000 in
set_option maxHeartbeats 6400000 in
theorem spec_ReadFormulaR (s : ByteArray) (w : World) (hs : s.size ≤ 1048576) :
    Calls Tryd.prog 16 #[.string s] w fun e w' => (∃ (F : Z.Fm) (ok : Bool) (p : Value), e = .returned (.tuple #[.agg #[.int .i64 F.dg, .int .i64 F.tn, .string F.nm, p], .int .i64 (Z.okCode ok)]) ∧ Z.FmR s F ok ∧ K.own w' w.heap.size w'.heap.size p F.pw) ∧ K.Ext w w' := by
  obtain ⟨p0, ps, hsp⟩ : ∃ p0 ps, Z.splitC 42 s.data.toList = p0 :: ps := by
    cases h : Z.splitC 42 s.data.toList with
    | nil => exact absurd h (Z.splitC_ne _ _)
    | cons a b => exact ⟨a, b, rfl⟩
  have HSP := Z.hide hsp
  have hl0 := Z.bytes_length s
  have hm : ps.length ≤ s.size := by have := Z.splitC_len 42 s.data.toList; rw [hsp] at this; simp at this; omega
  have HPL : Hid (∀ p ∈ p0 :: ps, (Z.str p).size ≤ 1048576) := Z.hide (fun p hp => by rw [Z.str_size]; have := Z.splitC_mem_len 42 s.data.toList p (by rw [hsp]; exact hp); omega)
  have HTOT : Hid (∀ k, Z.sumTo ps k ≤ 1048576) := Z.hide (fun k => by have h1 := Z.sumTo_le ps k; have h2 := Z.splitC_sum 42 s.data.toList; rw [hsp] at h2; simp at h2; omega)
  have HS : ∀ w', _ := fun w' => l01Split_parts s 42 hsp w' hs
  have hp0 := HPL.out p0 (by simp)
  obtain ⟨d, t, ok, hf⟩ : ∃ d t ok, Z.readFigS p0 = ((d, t), ok) := ⟨_, _, _, rfl⟩
  have HF : ∀ w', Calls Tryd.prog 51 #[.string (Z.str p0)] w' fun e w'' => e = .returned (.tuple #[.agg #[.int .i64 d, .int .i64 t], .int .i64 (Z.okCode ok)]) ∧ K.Ext w' w'' := fun w' => by have h_ := ReadFigure_any (Z.str p0) w'; rwa [Z.str_bytes, hf] at h_
  have HF0 := Z.hide hf
  obtain ⟨P0, hP0⟩ : ∃ P0, P0 = Z.str p0 := ⟨_, rfl⟩
  rw [← hP0] at HF HS
  obtain ⟨m, hmd⟩ : ∃ m, m = ps.length := ⟨_, rfl⟩
  have HM := Z.hide hmd
  rw [← hmd] at hm HS
  have HS' : ∀ w', Calls Tryd.prog 50 #[.string s, .int .u8 42] w' _ := HS
  have I64 := Z.hide info_int
  have HS0 : Hid (Z.RdI s d t m 0 [] []) := Z.hide (by rw [hmd]; exact Z.RdI.startS hsp hf)
  obtain ⟨q, hq⟩ : ∃ q, q = Z.okCode ok := ⟨_, rfl⟩
  have HQ := Z.hide hq
  rw [← hq] at HF
  clear hsp hf hp0 hmd hl0 hP0 HS hq
  go_enter Tryd.func16, Tryd.ntmps16
  go_wp2_with fail
  refine K.call (by with_reducible rfl) (by with_reducible rfl) (HS' _) ?_
  rintro e w1 ⟨⟨b, cap, rfl, hb, hc0, hcs⟩, f1⟩
  have F1 : K.Ext w w1 := ((K.Ext.refl _).alloc _).trans f1
  have B1 := Z.hide (K.Ext.block_of (K.block_new (w := w) (o := .cells #[.int .i64 0, .int .i64 0, .string ⟨#[]⟩, .slice none 0 0] 28) rfl) f1)
  have l1 := (Array.getElem?_eq_some_iff.1 B1.out).1
  have HCS := Z.hide hcs
  have lb : b < w1.heap.size := World.block_lt_of_cell? w1 _ hc0
  clear hcs HS'
  go_wp2_with fail
  refine K.call (by with_reducible rfl) (by with_reducible rfl) (HF _) ?_
  rintro e w2 ⟨rfl, f2⟩
  have B2 := Z.hide (K.Ext.block_of B1.out f2)
  have HX2 := Z.hide (F1.trans f2)
  have lw2 := f2.size
  clear HF
  go_wp2
  go_loopw [7, 8, 9] (fun nm pv i wr => ∃ (k : Nat) (N : ByteArray) (P : List Int), k ≤ m ∧ P.length = k ∧ nm = .string N ∧ i = .int .i64 ((k : Int) + 1) ∧ N.size ≤ Z.sumTo ps k ∧ Hid (wr.ownsRow (w2.heap.size + 1) 2 1 pv k (P.map (Value.int .i64))) ∧ Hid (K.Ext (w2.alloc (.cells #[.int .i64 d, .int .i64 t] 25)) wr) ∧ Hid (Z.RdI s d t m k N.data.toList P)) (fun _ _ i _ => m + 1 - (intOf i).toNat)
  case atStart => exact ⟨0, ⟨#[]⟩, [], Nat.zero_le _, rfl, rfl, by go_num, Nat.zero_le _, Z.hide (row_lit1 (by simp) (by omega)), Z.hide ((K.Ext.refl _).alloc _), HS0⟩
  case round =>
    obtain ⟨k, N, P, hk, hP, rfl, rfl, hN, HO, HX, HI⟩ := hrel
    by_cases hlt : k < m
    · have hkp : k < ps.length := by rw [← HM.out]; exact hlt
      obtain ⟨p, hp⟩ : ∃ p, p = ps[k]'hkp := ⟨_, rfl⟩
      have HPK := Z.hide hp
      have hps : ps[k]? = some p := by rw [hp]; exact List.getElem?_eq_getElem hkp
      have hck : wr.cell? ⟨b, 1 + k, none⟩ = some (.string (Z.str p)) := HX.out.cell_of (((K.Ext.refl _).alloc _).cell_of (f2.cell_of (HCS.out k p hps)))
      have hck' : wr.cell? ⟨b, k + 1, none⟩ = some (.string (Z.str p)) := by rw [Nat.add_comm]; exact hck
      have hpl := HPL.out p (by rw [hp]; exact List.mem_cons_of_mem _ (List.getElem_mem hkp))
      have HSUM := Z.hide (Z.sumTo_succ hps)
      have hsum := HTOT.out (k + 1)
      rw [HSUM.out] at hsum
      obtain ⟨q0, qs, hqs⟩ : ∃ p0 ps, Z.splitC 94 p = p0 :: ps := by
        cases h : Z.splitC 94 p with
        | nil => exact absurd h (Z.splitC_ne _ _)
        | cons a b => exact ⟨a, b, rfl⟩
      have hq0 : q0.length ≤ p.length := Z.splitC_mem_len 94 p q0 (by rw [hqs]; simp)
      have HS2 : ∀ w', Calls Tryd.prog 50 #[.string (Z.str p), .int .u8 94] w' _ := fun w' => l01Split_parts (Z.str p) 94 (by rw [Z.str_bytes]; exact hqs) w' hpl
      have hAs : (Z.str q0).size = q0.length := Z.str_size q0
      obtain ⟨SQ, hSQ⟩ : ∃ SQ, SQ = Z.str q0 := ⟨_, rfl⟩
      have HSQ := Z.hide hSQ
      rw [← hSQ] at HS2 hAs
      obtain ⟨it0, hi0, hz0, hz1, hz2⟩ := info_parts I64.out
      have k0 : (0 : Int) ≤ (k : Int) := Int.natCast_nonneg k
      have k1 : (k : Int) < (m : Int) := by omega
      have k2 : (k : Int) + 1 < (m : Int) + 1 := by omega
      have k3 : (0 : Int) ≤ (k : Int) + 1 := by omega
      have qk : IntKind.i64.wrap ((k : Int) + 1 + 1) = (k : Int) + 1 + 1 := IntWalk.i64_in _ (by omega)
      have o2 : ¬ (9223372036854775807 < N.size + SQ.size) := by omega
      have lw := HX.out.size
      simp only [World.size_alloc] at lw
      generalize Z.str p = SP at hck hck' HS2
      clear hSQ hps hpl
      by_cases h2 : qs.length = 1
      · obtain ⟨q1, rfl⟩ : ∃ q1, qs = [q1] := by
          match qs, h2 with
          | [a], _ => exact ⟨a, rfl⟩
        obtain ⟨x, bx, hn⟩ : ∃ x bx, Z.signed q1 = (x, bx) := ⟨_, _, rfl⟩
        have HSg : ∀ w', Calls Tryd.prog 52 #[.string (Z.str q1)] w' fun e w'' => e = .returned (.tuple #[.int .i64 x, .bool bx]) ∧ K.Ext w' w'' := fun w' => by have h_ := l01Signed_any (Z.str q1) w'; rwa [Z.str_bytes, hn] at h_
        have HRD : Hid (Z.rdPartS p = (q0, x)) := Z.hide (by unfold Z.rdPartS; rw [hqs]; simp [hn])
        have HS3 : ∀ w', Calls Tryd.prog 50 #[.string SP, .int .u8 94] w' fun e w'' => (∃ b cap, e = .returned (.slice (some ⟨b, 0, none⟩) 2 cap) ∧ w'.heap.size ≤ b ∧ w''.cell? ⟨b, 0, none⟩ = some (.string SQ) ∧ w''.cell? ⟨b, 1, none⟩ = some (.string (Z.str q1))) ∧ K.Ext w' w'' := fun w' => (HS2 w').mono fun e w'' ⟨⟨b, cap, h1, h2, h3, h4⟩, h5⟩ => ⟨⟨b, cap, h1, h2, h3, h4 0 q1 rfl⟩, h5⟩
        generalize Z.str q1 = SQ1 at HS3 HSg
        clear HS2 hqs hn h2 hp
        go_wp2_with fail
        refine K.call (by with_reducible rfl) (by with_reducible rfl) (HS3 _) ?_
        rintro e w3 ⟨⟨b3, cap3, rfl, lb3, e0, e1⟩, f3⟩
        have lw3 := f3.size
        go_wp2_with fail
        refine K.call (by with_reducible rfl) (by with_reducible rfl) (HSg _) ?_
        rintro e w4 ⟨rfl, f4⟩
        have lw4 := f4.size
        have f34 := f3.trans f4
        have e0' : w4.cell? ⟨b3, 0, none⟩ = some (.string SQ) := f4.cell_of e0
        have HX3 := Z.hide (HX.out.trans f34)
        have HP3 := Z.hide (K.row_ext HO.out f34)
        go_wp2_with (at_builtin; refine wpList_append_lies _ rfl _ _ _ rfl (w2.heap.size + 1) 2 it0 _ 1 8 Tryd.underlying26 hi0 hz0 hz1 hz2 rfl (by omega) _ k _ rfl (HP3.out.alloc _) ⟨w4.heap.size, 0, none⟩ 1 1 [.int .i64 x] rfl rfl (World.news_of_block (cs := #[.int .i64 x]) (t := 2) (fr := (0, 0)) (K.block_new (by simp))) (by simp [Value.oneCell']) (by omega) (by unfold maxLen; omega) (by omega) (by simp; omega) (w4.heap.size + 1) (by simp) ?_; intro g5 gcap5 w5 hown5 hgrow5 hat5 hlt5; have HP5 := Z.hide hown5; have HX5 : Hid (K.Ext (w2.alloc (.cells #[.int .i64 d, .int .i64 t] 25)) w5) := Z.hide ((HX3.out.alloc _).below.grown hgrow5 (by simp; omega) (fun g hg => by have := (HP3.out.lt g hg).1; simp; omega)); clear hown5 hgrow5 hat5 hlt5)
        go_roundw
        case rel => exact ⟨k + 1, N ++ SQ, P ++ [x], by omega, by simp; omega, rfl, by go_num, by rw [ByteArray.size_append, HSUM.out]; omega, Z.hide (by rw [List.map_append, List.map_singleton]; exact HP5.out), HX5, Z.hide (by rw [Z.append_bytes, HSQ.out, Z.str_bytes]; exact Z.RdI.nextS HSP.out HI.out hkp (by rw [← HPK.out]; exact HRD.out))⟩
        case measure => first | (simp [intOf]; done) | (simp [intOf]; omega)
      · have HRD : Hid (Z.rdPartS p = (q0, 1)) := Z.hide (by unfold Z.rdPartS; rw [hqs]; simp [h2])
        obtain ⟨nq, hnq⟩ : ∃ nq, nq = qs.length := ⟨_, rfl⟩
        have HS3 : ∀ w', Calls Tryd.prog 50 #[.string SP, .int .u8 94] w' fun e w'' => (∃ b cap, e = .returned (.slice (some ⟨b, 0, none⟩) (nq + 1) cap) ∧ w'.heap.size ≤ b ∧ w''.cell? ⟨b, 0, none⟩ = some (.string SQ)) ∧ K.Ext w' w'' := fun w' => (HS2 w').mono fun e w'' ⟨⟨b, cap, h1, h2, h3, h4⟩, h5⟩ => ⟨⟨b, cap, by rw [hnq]; exact h1, h2, h3⟩, h5⟩
        rw [← hnq] at h2
        have h2' : (((nq : Nat) : Int) + 1 == 2) = false := by rw [beq_eq_false_iff_ne]; omega
        have h2'' : ¬ ((nq : Int) + 1 = 2) := by omega
        have n0 : (0 : Int) < (nq : Int) + 1 := by omega
        clear HS2 hqs hnq hp
        go_wp2_with fail
        refine K.call (by with_reducible rfl) (by with_reducible rfl) (HS3 _) ?_
        rintro e w3 ⟨⟨b3, cap3, rfl, lb3, e0⟩, f3⟩
        have lw3 := f3.size
        have HX3 := Z.hide (HX.out.trans f3)
        have HP3 := Z.hide (K.row_ext HO.out f3)
        go_wp2_with (at_builtin; refine wpList_append_lies _ rfl _ _ _ rfl (w2.heap.size + 1) 2 it0 _ 1 8 Tryd.underlying26 hi0 hz0 hz1 hz2 rfl (by omega) _ k _ rfl (HP3.out.alloc _) ⟨w3.heap.size, 0, none⟩ 1 1 [.int .i64 1] rfl rfl (World.news_of_block (cs := #[.int .i64 1]) (t := 2) (fr := (0, 0)) (K.block_new (by simp))) (by simp [Value.oneCell']) (by omega) (by unfold maxLen; omega) (by omega) (by simp; omega) (w3.heap.size + 1) (by simp) ?_; intro g5 gcap5 w5 hown5 hgrow5 hat5 hlt5; have HP5 := Z.hide hown5; have HX5 : Hid (K.Ext (w2.alloc (.cells #[.int .i64 d, .int .i64 t] 25)) w5) := Z.hide ((HX3.out.alloc _).below.grown hgrow5 (by simp; omega) (fun g hg => by have := (HP3.out.lt g hg).1; simp; omega)); clear hown5 hgrow5 hat5 hlt5)
        go_roundw
        case rel => exact ⟨k + 1, N ++ SQ, P ++ [1], by omega, by simp; omega, rfl, by go_num, by rw [ByteArray.size_append, HSUM.out]; omega, Z.hide (by rw [List.map_append, List.map_singleton]; exact HP5.out), HX5, Z.hide (by rw [Z.append_bytes, HSQ.out, Z.str_bytes]; exact Z.RdI.nextS HSP.out HI.out hkp (by rw [← HPK.out]; exact HRD.out))⟩
        case measure => first | (simp [intOf]; done) | (simp [intOf]; omega)
    · obtain rfl : k = m := by omega
      have HOw := Z.hide (K.own_of_row HO.out)
      have hs_ := HOw.out
      obtain ⟨os, cs, rfl, _⟩ := hs_
      have HOk : Hid (K.own wr (w2.heap.size + 1) wr.heap.size (.slice os k cs) P) := Z.hide (by have h_ := HOw.out; rwa [hP] at h_)
      have lw := HX.out.size
      simp only [World.size_alloc] at lw
      have HXw : Hid (K.Ext w wr) := Z.hide ((HX2.out.alloc _).trans HX.out)
      have B3 := Z.hide (K.Ext.block_of B2.out (((K.Ext.refl _).alloc _).trans HX.out))
      have G3 := Z.hide (K.Ext.block_of (K.block_new (w := w2) (o := .cells #[.int .i64 d, .int .i64 t] 25) rfl) HX.out)
      have g0 : wr.cell? ⟨w2.heap.size, 0, none⟩ = some (.int .i64 d) := K.cell_at G3.out rfl
      have g1 : wr.cell? ⟨w2.heap.size, 1, none⟩ = some (.int .i64 t) := K.cell_at G3.out rfl
      obtain ⟨⟨r0, r1, r2, r3⟩, ⟨t0, t1, t2, t3⟩, l3⟩ := K.box4 B3.out
      have hNs := HTOT.out k
      have ne1 : wr.heap.size ≠ w.heap.size := by omega
      have ne2 : w.heap.size ≠ wr.heap.size := by omega
      have HIF : ∀ w', K.Ext wr w' → Calls Tryd.prog 44 #[.agg #[.int .i64 d, .int .i64 t, .string N, .slice os P.length cs]] w' fun e w'' => e = .returned (.bool (Z.isFormula ⟨d, t, N, P⟩)) ∧ K.Ext w' w'' := fun w' hx => spec_IsFormula ⟨d, t, N, P⟩ w' (by show P.length ≤ _; omega) (by show N.size ≤ _; omega) (K.ints.ext (K.own.ints HOw.out) hx)
      rw [hP] at HIF
      cases ok
      · have HR : Hid (Z.FmR s Z.zeroFm false) := Z.hide (Z.RdI.failS HSP.out HF0.out)
        obtain rfl : q = 6 := HQ.out
        go_wp2
        refine bodyPost_ret (v := .tuple #[.agg #[.int .i64 0, .int .i64 0, .string ⟨#[]⟩, .slice none 0 0], .int .i64 6]) (by unfold results; rw [Tryd.results16]; go_simp) rfl ⟨⟨Z.zeroFm, false, _, rfl, HR.out, K.own_nil _ _ _⟩, ?_⟩
        repeat with_reducible first | refine K.Ext.setCell ?_ (by dsimp only; omega) _ | refine K.Ext.alloc ?_ _
        exact HXw.out
      · obtain rfl : q = 0 := HQ.out
        cases hv : Z.isFormula ⟨d, t, N, P⟩
        · have HR : Hid (Z.FmR s Z.zeroFm false) := Z.hide (Z.RdI.none HI.out (.inl hv))
          rw [hv] at HIF
          go_wp2_with fail
          refine K.call (by with_reducible rfl) (by with_reducible rfl) (HIF _ ((K.Ext.refl _).alloc _)) ?_
          rintro e w3 ⟨rfl, f3⟩
          have D1 := Z.hide (K.Ext.block_of B3.out (((K.Ext.refl _).alloc _).trans f3))
          obtain ⟨⟨r0', r1', r2', r3'⟩, ⟨t0', t1', t2', t3'⟩, l3'⟩ := K.box4 D1.out
          go_wp2
          refine bodyPost_ret (v := .tuple #[.agg #[.int .i64 0, .int .i64 0, .string ⟨#[]⟩, .slice none 0 0], .int .i64 6]) (by unfold results; rw [Tryd.results16]; go_simp) rfl ⟨⟨Z.zeroFm, false, _, rfl, HR.out, K.own_nil _ _ _⟩, ?_⟩
          repeat with_reducible first | refine K.Ext.setCell ?_ (by dsimp only; omega) _ | refine K.Ext.alloc ?_ _
          exact HXw.out.trans (((K.Ext.refl _).alloc _).trans f3)
        · rw [hv] at HIF
          have HV := Z.hide (Z.valid_parts hv)
          have HFT : ∀ w', K.Ext wr w' → Calls Tryd.prog 45 #[.agg #[.int .i64 d, .int .i64 t, .string N, .slice os P.length cs]] w' fun e w'' => e = .returned (.string (Z.fmText ⟨d, t, N, P⟩)) ∧ K.Ext w' w'' := fun w' hx => l18Text_any ⟨d, t, N, P⟩ w' HV.out.1.1 HV.out.1.2 HV.out.2.1.1 HV.out.2.1.2 HV.out.2.2.1 HV.out.2.2.2.1 HV.out.2.2.2.2 (K.ints.ext (K.own.ints HOw.out) hx)
          rw [hP] at HFT
          obtain ⟨D, hD⟩ : ∃ D, D = Z.fmText ⟨d, t, N, P⟩ := ⟨_, rfl⟩
          have HD := Z.hide hD
          have HVV := Z.hide hv
          rw [← hD] at HFT
          clear hD hv
          have hbq := K.str_beq D s
          go_wp2_with fail
          refine K.call (by with_reducible rfl) (by with_reducible rfl) (HIF _ ((K.Ext.refl _).alloc _)) ?_
          rintro e w3 ⟨rfl, f3⟩
          have X3 : K.Ext wr w3 := ((K.Ext.refl _).alloc _).trans f3
          have C4 := Z.hide (K.Ext.block_of (K.block_new (w := wr) (o := .cells #[.int .i64 d, .int .i64 t, .string N, .slice os k cs] 28) rfl) f3)
          have D1 := Z.hide (K.Ext.block_of B3.out X3)
          obtain ⟨⟨a0, a1, a2, a3⟩, ⟨b0, b1, b2, b3⟩, m4⟩ := K.box4 C4.out
          go_wp2_with fail
          refine K.call (by with_reducible rfl) (by with_reducible rfl) (HFT _ X3) ?_
          rintro e w4 ⟨rfl, f4⟩
          have C5 := Z.hide (K.Ext.block_of C4.out f4)
          have D2 := Z.hide (K.Ext.block_of D1.out f4)
          obtain ⟨⟨x0, x1, x2, x3⟩, ⟨y0, y1, y2, y3⟩, m5⟩ := K.box4 C5.out
          obtain ⟨⟨r0', r1', r2', r3'⟩, ⟨t0', t1', t2', t3'⟩, l3'⟩ := K.box4 D2.out
          have HX4 := Z.hide (HXw.out.trans (X3.trans f4))
          by_cases heq : D = s
          · have HR : Hid (Z.FmR s ⟨d, t, N, P⟩ true) := Z.hide (Z.RdI.done HI.out HVV.out (by rw [← HD.out]; exact heq))
            rw [decide_eq_true heq] at hbq
            clear heq
            go_wp2
            refine bodyPost_ret (v := .tuple #[.agg #[.int .i64 d, .int .i64 t, .string N, .slice os k cs], .int .i64 0]) (by unfold results; rw [Tryd.results16]; go_simp) rfl ⟨⟨⟨d, t, N, P⟩, true, _, rfl, HR.out, ?_⟩, ?_⟩
            · refine K.own.mono (lo := w2.heap.size + 1) (hi := wr.heap.size) ?_ (by omega) (by have := X3.size; have := f4.size; simp; omega)
              repeat with_reducible refine K.own.set ?_ _ (.inl (by dsimp only; omega)) _
              exact K.own.ext (K.own.ext HOk.out X3) f4
            · repeat with_reducible refine K.Ext.setCell ?_ (by dsimp only; omega) _
              exact HX4.out
          · have HR : Hid (Z.FmR s Z.zeroFm false) := Z.hide (Z.RdI.none HI.out (.inr (by rw [← HD.out]; exact heq)))
            rw [decide_eq_false heq] at hbq
            clear heq
            go_wp2
            refine bodyPost_ret (v := .tuple #[.agg #[.int .i64 0, .int .i64 0, .string ⟨#[]⟩, .slice none 0 0], .int .i64 6]) (by unfold results; rw [Tryd.results16]; go_simp) rfl ⟨⟨Z.zeroFm, false, _, rfl, HR.out, K.own_nil _ _ _⟩, ?_⟩
            repeat with_reducible first | refine K.Ext.setCell ?_ (by dsimp only; omega) _ | refine K.Ext.alloc ?_ _
            exact HX4.out
end Go.Proofs.YtbloldnmlhhbhaaDoor
end
section
namespace Go.Z
open Classical in
noncomputable def ReadFormula (s : ByteArray) : Fm × Int := if h : ∃ x : Fm × Bool, FmR s x.1 x.2 then (h.choose.1, okCode h.choose.2) else (zeroFm, 6)
theorem ReadFormula_is {s : ByteArray} {F : Fm} {ok : Bool} (h : FmR s F ok) : ReadFormula s = (F, okCode ok) := by
  have hx : ∃ x : Fm × Bool, FmR s x.1 x.2 := ⟨(F, ok), h⟩
  unfold ReadFormula
  rw [dif_pos hx]
  obtain ⟨e1, e2⟩ := FmR.same hx.choose_spec h
  rw [e1, e2]
theorem ReadFormula_le (s : ByteArray) : (ReadFormula s).1.pw.length ≤ 1048576 ∧ (ReadFormula s).1.nm.size ≤ 1048576 := by
  by_cases hx : ∃ x : Fm × Bool, FmR s x.1 x.2
  · obtain ⟨⟨F, ok⟩, h⟩ := hx
    rw [ReadFormula_is h]
    cases ok
    · rw [h.zero rfl]; exact ⟨by simp [zeroFm], by simp [zeroFm, ByteArray.size]⟩
    · have := isFormula_len (F := F) (h.sound rfl).1
      show F.pw.length ≤ _ ∧ F.nm.size ≤ _
      omega
  · unfold ReadFormula; rw [dif_neg hx]; exact ⟨by simp [zeroFm], by simp [zeroFm, ByteArray.size]⟩
end Go.Z
namespace Go.Proofs.YtbloldnmlhhbhaaDoor
open Go.RowKit
theorem impl_ReadFormula (s : ByteArray) (w : World) (hm : s.size ≤ 1048576) (hL : LV w) :
    Calls Tryd.prog 15 #[.string s] w fun e w' => (∃ p', e = .returned (.tuple #[.agg #[.int .i64 ((Z.ReadFormula s).1).dg, .int .i64 ((Z.ReadFormula s).1).tn, .string ((Z.ReadFormula s).1).nm, p'], .int .i64 (Z.ReadFormula s).2]) ∧ K.own w' w.heap.size w'.heap.size p' (Z.ReadFormula s).1.pw) ∧ K.Ext w w' :=
  (impl_ReadFormulaR s w hm hL).mono fun e w' ⟨⟨F, ok, p, he, hR, ho⟩, hx⟩ => ⟨⟨p, by rw [he, Z.ReadFormula_is hR], by rw [Z.ReadFormula_is hR]; exact ho⟩, hx⟩
theorem spec_ReadFormula (s : ByteArray) (w : World) (hm : s.size ≤ 1048576) :
    Calls Tryd.prog 16 #[.string s] w fun e w' => (∃ p', e = .returned (.tuple #[.agg #[.int .i64 ((Z.ReadFormula s).1).dg, .int .i64 ((Z.ReadFormula s).1).tn, .string ((Z.ReadFormula s).1).nm, p'], .int .i64 (Z.ReadFormula s).2]) ∧ K.ints w' w.heap.size w'.heap.size p' (Z.ReadFormula s).1.pw) ∧ K.Ext w w' :=
  (spec_ReadFormulaR s w hm).mono fun e w' ⟨⟨F, ok, p, he, hR, ho⟩, hx⟩ => ⟨⟨p, by rw [he, Z.ReadFormula_is hR], by rw [Z.ReadFormula_is hR]; exact ho.ints⟩, hx⟩
end Go.Proofs.YtbloldnmlhhbhaaDoor
end
section
namespace Go.Z
theorem ReadFormula_back {s : ByteArray} (h : (ReadFormula s).2 = 0) : isFormula (ReadFormula s).1 = true ∧ fmText (ReadFormula s).1 = s := by
  by_cases hx : ∃ x : Fm × Bool, FmR s x.1 x.2
  · obtain ⟨⟨F, ok⟩, hR⟩ := hx
    rw [ReadFormula_is hR] at h ⊢
    cases ok
    · cases h
    · exact hR.sound rfl
  · unfold ReadFormula at h
    rw [dif_neg hx] at h
    cases h
theorem FormulaText_ok {F : Fm} (h : isFormula F = true) : FormulaText F = (fmText F, 0) := by unfold FormulaText; rw [if_pos h]
theorem FormulaText_is {F : Fm} (h : (FormulaText F).2 = 0) : isFormula F = true := by
  unfold FormulaText at h
  split at h
  · assumption
  · cases h
theorem FormulaText_size (F : Fm) (hn : F.nm.size ≤ 7) : (FormulaText F).1.size ≤ 1048576 := by
  unfold FormulaText
  split
  · rename_i hv
    obtain ⟨h1, h2, h3, _, h5⟩ := valid_parts hv
    have key : ∀ k, k ≤ F.nm.size → (fmTextK F k).size ≤ 26 + 23 * k := by
      intro k
      induction k with
      | zero => intro _; have := figText_size (t := F.tn) h1.1 h1.2 h2.1 h2.2; unfold fmTextK; omega
      | succ k ih =>
        intro hk
        have := ih (by omega)
        have hb := h5 k (by omega)
        have hs := partText_size (nm := F.nm) (i := k) (by omega) hb.1 hb.2
        unfold fmTextK
        rw [ByteArray.size_append]; omega
    have := key F.nm.size (Nat.le_refl _)
    show (fmText F).size ≤ _
    unfold fmText; omega
  · show (0 : Nat) ≤ _; omega
end Go.Z
namespace Go.Proofs.YtbloldnmlhhbhaaDoor
open Go.RowKit
theorem impl_ReadBack (F : Z.Fm) (w : World) (hF : Z.isFormula F = true) (hm : (Z.fmText F).size ≤ 1048576) (hL : LV w) :
    Calls Tryd.prog 15 #[.string (Z.fmText F)] w fun e w' => (∃ p', e = .returned (.tuple #[.agg #[.int .i64 F.dg, .int .i64 F.tn, .string F.nm, p'], .int .i64 0]) ∧ K.own w' w.heap.size w'.heap.size p' F.pw) ∧ K.Ext w w' :=
  (impl_ReadFormulaR (Z.fmText F) w hm hL).mono fun e w' ⟨⟨G, ok, p, he, hR, ho⟩, hx⟩ => by
    obtain ⟨rfl, rfl⟩ := hR.whole F hF rfl
    exact ⟨⟨p, he, ho⟩, hx⟩
set_option maxRecDepth 100000 in
set_option maxHeartbeats 12800000 in
theorem law_FnFormulaTexts {n : Nat} {v : Value} (w : World) (h : K.byts w w.heap.size v n) (hL : LV w) :
    Calls Tryd.prog 3 #[v] w fun e w' => e = .returned (.bool true) ∧ K.Ext w w' := by
  have F0 : K.Ext w w := K.Ext.refl _
  rcases Nat.lt_or_ge 4096 n with hn | hn
  · go_enter Tryd.func3, Tryd.ntmps3
    go_wp2_with fail
    refine K.call (by with_reducible rfl) (by with_reducible rfl) (big_yes _ hn h) ?_
    rintro e w1 ⟨rfl, rfl⟩
    go_wp2_with fail
    go_ret
    exact ⟨rfl, F0⟩
  go_enter Tryd.func3, Tryd.ntmps3
  go_wp2_with fail
  refine K.call (by with_reducible rfl) (by with_reducible rfl) (big_no _ hn h) ?_
  rintro e w1 ⟨rfl, rfl⟩
  go_wp2_with fail
  refine K.call (by with_reducible rfl) (by with_reducible rfl) (DrawFormulaText_any _ hn (K.Ext.size (K.bex F0)) (h.ext (K.bex F0))) ?_
  rintro e w1 ⟨⟨F, pF, rfl, ⟨a1, a2⟩, hF1⟩, f1⟩
  obtain ⟨oF, kF, rfl, _⟩ := id (hF1)
  have IF_1 : K.ints w1 0 w1.heap.size (.slice oF F.pw.length kF) F.pw := (hF1).mono (Nat.zero_le _) (by omega)
  have F1 : K.Ext w w1 := K.Ext.trans (K.bex F0) f1
  clear f1
  go_wp2_with fail
  refine K.call (by with_reducible rfl) (by with_reducible rfl) (impl_FormulaText F _ (by omega) (by omega) (K.bin IF_1) (hL.ext (K.bex F1)).t) ?_
  rintro e w2 ⟨rfl, f2⟩
  have F2 : K.Ext w w2 := K.Ext.trans (K.bex F1) f2
  have c2_0_0 : w2.cell? ⟨w1.heap.size, 0, none⟩ = some (.int .i64 F.dg) := f2.cell_of (by go_simp)
  have c2_0_1 : w2.cell? ⟨w1.heap.size, 1, none⟩ = some (.int .i64 F.tn) := f2.cell_of (by go_simp)
  have c2_0_2 : w2.cell? ⟨w1.heap.size, 2, none⟩ = some (.string F.nm) := f2.cell_of (by go_simp)
  have c2_0_3 : w2.cell? ⟨w1.heap.size, 3, none⟩ = some (.slice oF F.pw.length kF) := f2.cell_of (by go_simp)
  have y2_0 : w1.heap.size < w2.heap.size := World.block_lt_of_cell? w2 _ c2_0_0
  have IF_2 := K.ints.ext (K.bin IF_1) f2
  clear IF_1 F1 f2
  go_wp2_with fail
  refine K.call (by with_reducible rfl) (by with_reducible rfl) (spec_FormulaText F _ (by omega) (by omega) (K.bin IF_2)) ?_
  rintro e w3 ⟨rfl, f3⟩
  have F3 : K.Ext w w3 := K.Ext.trans (K.bex F2) f3
  obtain ⟨c3_0_0, c3_0_1, c3_0_2, c3_0_3, y3_0⟩ := f3.q4 c2_0_0 c2_0_1 c2_0_2 c2_0_3
  have IF_3 := K.ints.ext (K.bin IF_2) f3
  clear c2_0_0 c2_0_1 c2_0_2 c2_0_3 y2_0 IF_2 F2 f3
  go_wp2_with fail
  refine K.call (by with_reducible rfl) (by with_reducible rfl) (DrawReadFormula_any _ hn (K.Ext.size (K.bex F3)) (h.ext (K.bex F3))) ?_
  rintro e w4 ⟨⟨s, rfl, hs⟩, f4⟩
  have F4 : K.Ext w w4 := K.Ext.trans (K.bex F3) f4
  obtain ⟨c4_0_0, c4_0_1, c4_0_2, c4_0_3, y4_0⟩ := f4.q4 c3_0_0 c3_0_1 c3_0_2 c3_0_3
  have IF_4 := K.ints.ext (K.bin IF_3) f4
  clear c3_0_0 c3_0_1 c3_0_2 c3_0_3 y3_0 IF_3 F3 f4
  obtain ⟨r1, r2⟩ := Z.ReadFormula_le s
  go_wp2_with fail
  refine K.call (by with_reducible rfl) (by with_reducible rfl) (impl_ReadFormula s _ (by omega) (hL.ext (K.bex F4))) ?_
  rintro e w5 ⟨⟨pX, rfl, hX⟩, f5⟩
  obtain ⟨oX, kX, rfl, _⟩ := id (K.own.ints hX)
  have IX_5 : K.ints w5 0 w5.heap.size (.slice oX ((Z.ReadFormula s).1).pw.length kX) ((Z.ReadFormula s).1).pw := (K.own.ints hX).mono (Nat.zero_le _) (by omega)
  have F5 : K.Ext w w5 := K.Ext.trans (K.bex F4) f5
  obtain ⟨c5_0_0, c5_0_1, c5_0_2, c5_0_3, y5_0⟩ := f5.q4 c4_0_0 c4_0_1 c4_0_2 c4_0_3
  have IF_5 := K.ints.ext (K.bin IF_4) f5
  clear c4_0_0 c4_0_1 c4_0_2 c4_0_3 y4_0 IF_4 F4 f5
  go_wp2_with fail
  refine K.call (by with_reducible rfl) (by with_reducible rfl) (spec_ReadFormula s _ (by omega)) ?_
  rintro e w6 ⟨⟨pY, rfl, hY⟩, f6⟩
  obtain ⟨oY, kY, rfl, _⟩ := id (hY)
  have IY_6 : K.ints w6 0 w6.heap.size (.slice oY ((Z.ReadFormula s).1).pw.length kY) ((Z.ReadFormula s).1).pw := (hY).mono (Nat.zero_le _) (by omega)
  have u6_0_1 : w1.heap.size < w5.heap.size + 1 := (by omega)
  have F6 : K.Ext w w6 := K.Ext.trans (K.bex F5) f6
  obtain ⟨c6_0_0, c6_0_1, c6_0_2, c6_0_3, y6_0⟩ := f6.q4 c5_0_0 c5_0_1 c5_0_2 c5_0_3
  have c6_1_0 : w6.cell? ⟨w5.heap.size, 0, none⟩ = some (.int .i64 ((Z.ReadFormula s).1).dg) := f6.cell_of (by go_simp)
  have c6_1_1 : w6.cell? ⟨w5.heap.size, 1, none⟩ = some (.int .i64 ((Z.ReadFormula s).1).tn) := f6.cell_of (by go_simp)
  have c6_1_2 : w6.cell? ⟨w5.heap.size, 2, none⟩ = some (.string ((Z.ReadFormula s).1).nm) := f6.cell_of (by go_simp)
  have c6_1_3 : w6.cell? ⟨w5.heap.size, 3, none⟩ = some (.slice oX ((Z.ReadFormula s).1).pw.length kX) := f6.cell_of (by go_simp)
  have y6_1 : w5.heap.size < w6.heap.size := World.block_lt_of_cell? w6 _ c6_1_0
  have IF_6 := K.ints.ext (K.bin IF_5) f6
  have IX_6 := K.ints.ext (K.bin IX_5) f6
  clear c5_0_0 c5_0_1 c5_0_2 c5_0_3 y5_0 IF_5 IX_5 F5 f6 u6_0_1
  have ht := Z.FormulaText_size F (by omega)
  have hbT := K.str_beq (Z.FormulaText F).1 (Z.FormulaText F).1
  go_wp2_with fail
  refine K.call (by with_reducible rfl) (by with_reducible rfl) (likeFormulas_same (Z.ReadFormula s).1 _ _ _ _ _ _ _ r1 (K.bin IX_6) (K.bin IY_6)) ?_
  rintro e w7 ⟨rfl, f7⟩
  have u7_0_1 : w1.heap.size < w6.heap.size + 1 := (by omega)
  have u7_1_1 : w5.heap.size < w6.heap.size + 1 := (by omega)
  have F7 : K.Ext w w7 := K.Ext.trans (K.bex F6) f7
  obtain ⟨c7_0_0, c7_0_1, c7_0_2, c7_0_3, y7_0⟩ := f7.q4 c6_0_0 c6_0_1 c6_0_2 c6_0_3
  obtain ⟨c7_1_0, c7_1_1, c7_1_2, c7_1_3, y7_1⟩ := f7.q4 c6_1_0 c6_1_1 c6_1_2 c6_1_3
  have c7_2_0 : w7.cell? ⟨w6.heap.size, 0, none⟩ = some (.int .i64 ((Z.ReadFormula s).1).dg) := f7.cell_of (by go_simp)
  have c7_2_1 : w7.cell? ⟨w6.heap.size, 1, none⟩ = some (.int .i64 ((Z.ReadFormula s).1).tn) := f7.cell_of (by go_simp)
  have c7_2_2 : w7.cell? ⟨w6.heap.size, 2, none⟩ = some (.string ((Z.ReadFormula s).1).nm) := f7.cell_of (by go_simp)
  have c7_2_3 : w7.cell? ⟨w6.heap.size, 3, none⟩ = some (.slice oY ((Z.ReadFormula s).1).pw.length kY) := f7.cell_of (by go_simp)
  have y7_2 : w6.heap.size < w7.heap.size := World.block_lt_of_cell? w7 _ c7_2_0
  have IF_7 := K.ints.ext (K.bin IF_6) f7
  have IX_7 := K.ints.ext (K.bin IX_6) f7
  have IY_7 := K.ints.ext (K.bin IY_6) f7
  clear c6_0_0 c6_0_1 c6_0_2 c6_0_3 y6_0 c6_1_0 c6_1_1 c6_1_2 c6_1_3 y6_1 IF_6 IX_6 IY_6 F6 f7 u7_0_1 u7_1_1
  by_cases h0 : (Z.ReadFormula s).2 = 0
  · obtain ⟨k1, k2⟩ := Z.ReadFormula_back h0
    have k3 := Z.FormulaText_ok k1
    rw [k2] at k3
    have hft := fun w' {lo hi : Nat} {p : Value} (h : K.ints w' lo hi p (Z.ReadFormula s).1.pw) (hl : LTab w') => impl_FormulaText (Z.ReadFormula s).1 w' r1 r2 h hl
    rw [k3] at hft
    have hbs := K.str_beq s s
    go_wp2_with fail
    refine K.call (by with_reducible rfl) (by with_reducible rfl) (hft _ (K.bin IX_7) (hL.ext (K.bex F7)).t) ?_
    rintro e w8 ⟨rfl, f8⟩
    have F8 : K.Ext w w8 := K.Ext.trans (K.bex F7) f8
    obtain ⟨c8_0_0, c8_0_1, c8_0_2, c8_0_3, y8_0⟩ := f8.q4 c7_0_0 c7_0_1 c7_0_2 c7_0_3
    obtain ⟨c8_1_0, c8_1_1, c8_1_2, c8_1_3, y8_1⟩ := f8.q4 c7_1_0 c7_1_1 c7_1_2 c7_1_3
    have IF_8 := K.ints.ext (K.bin IF_7) f8
    have IX_8 := K.ints.ext (K.bin IX_7) f8
    clear c7_0_0 c7_0_1 c7_0_2 c7_0_3 y7_0 c7_1_0 c7_1_1 c7_1_2 c7_1_3 y7_1 c7_2_0 c7_2_1 c7_2_2 c7_2_3 y7_2 IF_7 IX_7 F7 f8
    by_cases hc : (Z.FormulaText F).2 = 0
    · have hv := Z.FormulaText_is hc
      have hv2 := Z.FormulaText_ok hv
      rw [hv2] at ht
      have hrb := fun w' (h : LV w') => impl_ReadBack F w' hv ht h
      go_wp2_with fail
      refine K.call (by with_reducible rfl) (by with_reducible rfl) (hrb _ (hL.ext (K.bex F8))) ?_
      rintro e w9 ⟨⟨pZ, rfl, hZ⟩, f9⟩
      obtain ⟨oZ, kZ, rfl, _⟩ := id (K.own.ints hZ)
      have IZ_9 : K.ints w9 0 w9.heap.size (.slice oZ F.pw.length kZ) F.pw := (K.own.ints hZ).mono (Nat.zero_le _) (by omega)
      have F9 : K.Ext w w9 := K.Ext.trans (K.bex F8) f9
      obtain ⟨c9_0_0, c9_0_1, c9_0_2, c9_0_3, y9_0⟩ := f9.q4 c8_0_0 c8_0_1 c8_0_2 c8_0_3
      have IF_9 := K.ints.ext (K.bin IF_8) f9
      clear c8_0_0 c8_0_1 c8_0_2 c8_0_3 y8_0 c8_1_0 c8_1_1 c8_1_2 c8_1_3 y8_1 IF_8 F8 f9
      go_wp2_with fail
      refine K.call (by with_reducible rfl) (by with_reducible rfl) (likeFormulas_same F _ _ _ _ _ _ _ (by omega) (K.bin IZ_9) (K.bin IF_9)) ?_
      rintro e w10 ⟨rfl, f10⟩
      have u10_0_1 : w1.heap.size < w9.heap.size + 1 := (by omega)
      have F10 : K.Ext w w10 := K.Ext.trans (K.bex F9) f10
      obtain ⟨c10_0_0, c10_0_1, c10_0_2, c10_0_3, y10_0⟩ := f10.q4 c9_0_0 c9_0_1 c9_0_2 c9_0_3
      have c10_3_0 : w10.cell? ⟨w9.heap.size, 0, none⟩ = some (.int .i64 F.dg) := f10.cell_of (by go_simp)
      have c10_3_1 : w10.cell? ⟨w9.heap.size, 1, none⟩ = some (.int .i64 F.tn) := f10.cell_of (by go_simp)
      have c10_3_2 : w10.cell? ⟨w9.heap.size, 2, none⟩ = some (.string F.nm) := f10.cell_of (by go_simp)
      have c10_3_3 : w10.cell? ⟨w9.heap.size, 3, none⟩ = some (.slice oZ F.pw.length kZ) := f10.cell_of (by go_simp)
      have y10_3 : w9.heap.size < w10.heap.size := World.block_lt_of_cell? w10 _ c10_3_0
      have IF_10 := K.ints.ext (K.bin IF_9) f10
      have IZ_10 := K.ints.ext (K.bin IZ_9) f10
      clear c9_0_0 c9_0_1 c9_0_2 c9_0_3 y9_0 IF_9 IZ_9 F9 f10 u10_0_1
      go_wp2_with fail
      go_ret
      exact ⟨rfl, (K.bex F10)⟩
    have hc' : ((Z.FormulaText F).2 == 0) = false := by simpa using hc
    go_wp2_with fail
    go_ret
    exact ⟨rfl, (K.bex F8)⟩
  have h0' : ((Z.ReadFormula s).2 == 0) = false := by simpa using h0
  by_cases hc : (Z.FormulaText F).2 = 0
  · have hv := Z.FormulaText_is hc
    have hv2 := Z.FormulaText_ok hv
    rw [hv2] at ht
    have hrb := fun w' (h : LV w') => impl_ReadBack F w' hv ht h
    go_wp2_with fail
    refine K.call (by with_reducible rfl) (by with_reducible rfl) (hrb _ (hL.ext (K.bex F7))) ?_
    rintro e w8 ⟨⟨pZ, rfl, hZ⟩, f8⟩
    obtain ⟨oZ, kZ, rfl, _⟩ := id (K.own.ints hZ)
    have IZ_8 : K.ints w8 0 w8.heap.size (.slice oZ F.pw.length kZ) F.pw := (K.own.ints hZ).mono (Nat.zero_le _) (by omega)
    have F8 : K.Ext w w8 := K.Ext.trans (K.bex F7) f8
    obtain ⟨c8_0_0, c8_0_1, c8_0_2, c8_0_3, y8_0⟩ := f8.q4 c7_0_0 c7_0_1 c7_0_2 c7_0_3
    have IF_8 := K.ints.ext (K.bin IF_7) f8
    clear c7_0_0 c7_0_1 c7_0_2 c7_0_3 y7_0 c7_1_0 c7_1_1 c7_1_2 c7_1_3 y7_1 c7_2_0 c7_2_1 c7_2_2 c7_2_3 y7_2 IF_7 F7 f8
    go_wp2_with fail
    refine K.call (by with_reducible rfl) (by with_reducible rfl) (likeFormulas_same F _ _ _ _ _ _ _ (by omega) (K.bin IZ_8) (K.bin IF_8)) ?_
    rintro e w9 ⟨rfl, f9⟩
    have u9_0_1 : w1.heap.size < w8.heap.size + 1 := (by omega)
    have F9 : K.Ext w w9 := K.Ext.trans (K.bex F8) f9
    obtain ⟨c9_0_0, c9_0_1, c9_0_2, c9_0_3, y9_0⟩ := f9.q4 c8_0_0 c8_0_1 c8_0_2 c8_0_3
    have c9_3_0 : w9.cell? ⟨w8.heap.size, 0, none⟩ = some (.int .i64 F.dg) := f9.cell_of (by go_simp)
    have c9_3_1 : w9.cell? ⟨w8.heap.size, 1, none⟩ = some (.int .i64 F.tn) := f9.cell_of (by go_simp)
    have c9_3_2 : w9.cell? ⟨w8.heap.size, 2, none⟩ = some (.string F.nm) := f9.cell_of (by go_simp)
    have c9_3_3 : w9.cell? ⟨w8.heap.size, 3, none⟩ = some (.slice oZ F.pw.length kZ) := f9.cell_of (by go_simp)
    have y9_3 : w8.heap.size < w9.heap.size := World.block_lt_of_cell? w9 _ c9_3_0
    have IF_9 := K.ints.ext (K.bin IF_8) f9
    have IZ_9 := K.ints.ext (K.bin IZ_8) f9
    clear c8_0_0 c8_0_1 c8_0_2 c8_0_3 y8_0 IF_8 IZ_8 F8 f9 u9_0_1
    go_wp2_with fail
    go_ret
    exact ⟨rfl, (K.bex F9)⟩
  have hc' : ((Z.FormulaText F).2 == 0) = false := by simpa using hc
  go_wp2_with fail
  go_ret
  exact ⟨rfl, (K.bex F7)⟩
end Go.Proofs.YtbloldnmlhhbhaaDoor
end
section
namespace Go.Proofs.YtbloldnmlhhbhaaDoor
open Go.ChangeShapes Go.WideShapes Go.ChangeAt Go.RowKit
namespace frameFnFormulaTexts
theorem own : ownKnob Tryd.prog.godebug = none := by kernel_rfl
theorem laidOut : laidOutB Tryd.prog = true := by kernel_rfl
theorem reads : ∀ t ∈ Tryd.f3.params.toList, Tryd.prog.readableRec t = true ∧ t < Tryd.prog.types.size := by
  rw [Tryd.params3]
  intro t ht
  simp only [List.mem_cons, List.not_mem_nil, or_false] at ht
  subst ht; exact ⟨by kernel_rfl, of_decide_eq_true (by kernel_rfl)⟩
theorem gTab : Tryd.prog.globalNamed "internal/strconv.uint64pow10" = some 3 := by kernel_rfl
theorem gTabType : (Tryd.prog.globals[3]?).map (·.type) = some 162 := by kernel_rfl
theorem cellsT : Tryd.prog.cellsOf 162 = 20 := by kernel_rfl
theorem cellsE : Tryd.prog.cellsOf 141 = 1 := by kernel_rfl
theorem laidList {W : World} (h : laidMetH Tryd.prog Rows.fnFormulaTextsRow.laid W) : laidMet Tryd.prog Rows.fnFormulaTextsRow.laid W := by
  rwa [MakeChecks.laidMetH_plain _ _ _ (by kernel_rfl)] at h
theorem table {W : World} (h : laidMetH Tryd.prog Rows.fnFormulaTextsRow.laid W) : LTab W := by
  have h3 := (laidList h).tail.tail
  exact ⟨Lib.tabIs_of_head (k := .u64) (zs := Lib.pow10Tab) gTab gTabType Tryd.underlying162 Tryd.underlying141 cellsE cellsT h3⟩
theorem gES : Tryd.prog.globalNamed "strconv.ErrSyntax" = some 1 := by kernel_rfl
theorem gESType : (Tryd.prog.globals[1]?).map (·.type) = some 116 := by kernel_rfl
theorem gER : Tryd.prog.globalNamed "strconv.ErrRange" = some 2 := by kernel_rfl
theorem gERType : (Tryd.prog.globals[2]?).map (·.type) = some 116 := by kernel_rfl
theorem cellsErr : Tryd.prog.cellsOf 172 = 1 := by kernel_rfl
theorem cellsStr : Tryd.prog.cellsOf 9 = 1 := by kernel_rfl
theorem star : "*" ++ "errors.errorString" = "*errors.errorString" := by decide
theorem rowErr (u : TypeId) (h : Tryd.prog.typeName? 3 u = some "*errors.errorString") : u = 170 :=
  typeName_ptr_named (nm := "errors.errorString") (by rw [star]; kernel_rfl) (by kernel_rfl) (by decide) u (by rw [star]; exact h)
theorem libv {W : World} (h : laidMetH Tryd.prog Rows.fnFormulaTextsRow.laid W) (hsh : W.ShapedOpen Tryd.prog) : LV W := by
  have h5 := (laidList h).tail.tail.tail.tail
  obtain ⟨a0, s0, hv0, -, -, -⟩ := laid_sentinel h5 gER gERType Tryd.underlying116 rowErr Tryd.underlying170 Tryd.underlying172 rfl rfl Tryd.underlying9 cellsErr cellsStr
  obtain ⟨a1, s1, hv1, -, -, -⟩ := laid_sentinel h5.tail gES gESType Tryd.underlying116 rowErr Tryd.underlying170 Tryd.underlying172 rfl rfl Tryd.underlying9 cellsErr cellsStr
  exact ⟨(table h).tab, Tryd.laysM146.s1_3 W hsh, ⟨_, by have h0 := World.var?_cell gES hv1 0; simpa using h0, Or.inr ⟨_, _, rfl⟩⟩, ⟨_, by have h0 := World.var?_cell gER hv0 0; simpa using h0, Or.inr ⟨_, _, rfl⟩⟩⟩
/-- A world for the witness: what the door lays, and the pinned table. -/
noncomputable def laidWorld (os : Os) : World :=
  { World.doorLaid Tryd.prog 72 os with heap := (World.doorLaid Tryd.prog 72 os).heap.modify 4 fun
      | .cells _ t frozen => .cells (Go.Pinned.utf8FirstZ.map (fun (n : Nat) => Value.int .u8 (n : Int))).toArray t frozen
      | o => o }
theorem laid_met (os : Os) : laidMetH Tryd.prog Rows.fnFormulaTextsRow.laid ((laidWorld os).forCall (fun _ _ => 0) ⟨#[], #[.slice none 0 0], []⟩).memory :=
  laidMetH_of_parts3 (fuel := 8) (laidMet_of_run' 8 (by kernel_rfl) (by kernel_rfl)) (by kernel_rfl) (by kernel_rfl)
theorem readsW (os : Os) {H : Type} (enc : TypeId × Value → H) : ∃ places, DataW.whole enc Tryd.prog ((laidWorld os).forCall (fun _ _ => 0) ⟨#[], #[.slice none 0 0], []⟩).memory Tryd.f3.params.toList Rows.fnFormulaTextsSpec.vars false #[.slice none 0 0].toList 8 = some ([.nil], [], places) :=
  ⟨[], by kernel_rfl⟩
set_option maxRecDepth 100000 in
theorem lifted (os : Os) (started : os.Started) (H : Type) (enc : TypeId × Value → H) (F : Stop.Interp) :
    ReturnsInHanded {} Tryd.checked os 3 .any ((OpenSpec.ofChange Rows.fnFormulaTextsSpec).preRow enc Tryd.prog Tryd.f3 Rows.fnFormulaTextsRow.domain false Rows.fnFormulaTextsRow.laid) (((OpenSpec.ofChange Rows.fnFormulaTextsSpec).at F).post enc Tryd.prog Tryd.f3 false true false false) := by
  obtain ⟨places, hx⟩ := readsW os enc
  refine returnsInHanded_of_row (C := Tryd.checked) (s := OpenSpec.ofChange Rows.fnFormulaTextsSpec) own started (by kernel_rfl) Tryd.func3
    (witness_row_atRef (enc := enc) (C := Tryd.checked) false (laidWorld os) #[.slice none 0 0] rfl (by kernel_rfl) (by kernel_rfl) (by kernel_rfl)
      (OpenSpec.preRow_of_cond 8 hx (by kernel_rfl) (fun k hk => by cases hk) (by kernel_rfl) (laid_met os))) ?_
  intro W base args ds gs before hval0 hW hcnd _ _ hL hsh _
  have hval : ∀ (j : Nat) t v, Tryd.f3.params[j]? = some t → args[j]? = some v → Value.okWide Tryd.prog W .any base t v := hval0
  have hW' := hW
  obtain ⟨p, q, hA0, hV, rfl, hfz, hnd⟩ := hW
  have hA : DataW.TrodAll enc Tryd.prog W 0 (fun _ => true) true Tryd.f3.params.toList args.toList ds p := hA0
  rw [Tryd.params3] at hA hval
  obtain ⟨rfl, rfl⟩ := trodVars_none hV
  obtain ⟨v0, vs0, d0, ds0, p0, q0, hargs, rfl, rfl, h0, r0⟩ := trodAll_cons hA
  obtain ⟨rfl, rfl, rfl⟩ := trodAll_nil r0
  obtain rfl : args = #[v0] := by cases args; simp_all
  clear hA0 hval0
  obtain ⟨a0, l0, c0, rfl⟩ := okWide_slice Tryd.underlying22 (hval 0 22 v0 rfl rfl)
  obtain ⟨fu0, hf0⟩ := h0
  obtain ⟨x0, zs0, ex0, hx0, hl0, hq0⟩ := K.recs_arg (R := K.ByR) (Q := fun s => 0 ≤ s ∧ s ≤ 255) 0 (by decide) Tryd.underlying22 (by kernel_rfl) (fun n cs y hy => K.byte_cells Tryd.underlying5 hy) hf0
  obtain rfl : Value.slice a0 l0 c0 = x0 := by simpa [Value.cells] using ex0
  refine Calls.mono (law_FnFormulaTexts  W (K.byts_of_recs hx0 hq0) (libv hL hsh)) fun e W' ⟨he, hg⟩ => ?_
  subst he
  exact ⟨_, rfl, K.law_post laidOut reads rfl Tryd.underlying4 rfl hW' rfl hg⟩
theorem over : Rows.FnFormulaTextsSaid :=
  OpenClaim.holds_of_cond 3 Tryd.f3 rfl rfl rfl rfl rfl rfl rfl ⟨rfl, rfl, rfl, rfl, rfl⟩ rfl rfl rfl rfl rfl (by kernel_rfl) Tryd.func3 (by kernel_rfl)
    (of_decide_eq_true (by kernel_rfl)) (by unfold Func.isWrapper; first | (rw [if_pos (by decide +kernel)]; kernel_rfl) | (rw [if_neg (by decide +kernel)]; exact ⟨rfl, rfl⟩))
    (fun os started H enc _ F => by rw [OpenClaim.pre_eq_preRow]; exact lifted os started H enc F)
theorem plain (f : FuncId) (fn : Func) (hf : Tryd.pinned.checked.prog.funcNamed "loop.example/g00951/laws.FnFormulaTexts" = some f) (hfn : Tryd.pinned.checked.prog.funcs[f]? = some fn) :
    true = Tryd.pinned.checked.prog.looks [] ∧ ∀ (j : Nat) t, fn.params[j]? = some t → Tryd.pinned.checked.prog.wantsStandIn t = false := by
  obtain rfl : f = 3 := Option.some.inj ((show Tryd.prog.funcNamed "loop.example/g00951/laws.FnFormulaTexts" = some 3 by kernel_rfl).symm.trans hf) |>.symm
  obtain rfl : fn = Tryd.f3 := (Option.some.inj (Tryd.func3.symm.trans hfn)).symm
  refine ⟨by kernel_rfl, fun j t ht => ?_⟩
  rw [Tryd.params3] at ht
  have hm := Array.mem_of_getElem? ht
  simp only [List.mem_toArray, List.mem_cons, List.not_mem_nil, or_false] at hm
  subst hm
  exact (show Tryd.prog.wantsStandIn 22 = false by kernel_rfl)
/-- The given statement: the card. -/
theorem proved : Rows.FnFormulaTextsCardSaid :=
  Claim7.holds_tied_plain_at .later [] _ _ _ _ over (fun _ h => by cases h) (by kernel_rfl) (fun _ h => by cases h) fnFormulaTexts_row_tie rfl ⟨rfl, rfl⟩ (by kernel_rfl) rfl plain (by kernel_rfl)
#print axioms proved
end frameFnFormulaTexts
end Go.Proofs.YtbloldnmlhhbhaaDoor
end
