/-
  For every input the law FnUnitTexts returns true, and its arguments read as before; the library's tables start as the program's text lays them (the card ties them).
-/
import Derived.Test.YtmgocfdhngeeiaaGreatDoorPUX3
import Derived.Ground.SlgnProg
import Derived.Shelf.LaysC
import Derived.Shelf.LaysM
import Derived.Shelf.Strconv.Itoa4
import Derived.Shelf.Strconv.ParseIntPublic10
import Derived.Shelf.Strings.OnBuilder
import Derived.Shelf.Strings.Prefix
import Derived.Shelf.Strings.Search3
import Derived.Shelf.Strings.Split
import Derived.Shelf.Strings.SplitShaped
import Derived.Lib.AppendIntMem
import Derived.Lib.ParseIntBTie
import Derived.Lib.Replace
import Derived.Lib.ReplaceLaws
import Derived.Deep.DeepHandedRow
import Derived.Deep.DeepWitnessRowRef
import Derived.LaidMore
import Derived.Lib.LaidTab
import Derived.MakeChecks
import Derived.SevenTiedAt
import Derived.Stop.Joined
import Derived.Stop.LaidErr
import Derived.Test.YtmgocfdhngeeiaaGreatDoorCards
import Derived.Test.YtmgocfdhngeeiaaGreatDoorRows
import Derived.Test.YtmgocfdhngeeiaaGreatDoorTie
set_option linter.unusedVariables false
section
namespace Go.Proofs
open Go.Shelf
def Tryz.lays156_ren : Go.Shelf.Ren := ⟨fun | 156 => 77 | 165 => 108 | 166 => 109 | 169 => 110 | 240 => 142 | 241 => 143 | 276 => 166 | 277 => 167 | n => n, fun | 31 => 67 | 9 => 9 | 3 => 3 | 4 => 4 | 0 => 0 | 20 => 20 | 72 => 127 | 76 => 129 | 70 => 125 | 37 => 22 | 75 => 110 | 127 => 148 | 164 => 168 | 5 => 5 | 80 => 131 | n => n, fun | n => n⟩
theorem Tryz.lays156 : Go.Proofs.Lays.n156 Tryz.prog Tryz.lays156_ren := {
  mixed := by kernel_rfl
  f156 := Tryz.func77.trans (congrArg some (by kernel_rfl))
  f165 := Tryz.func108.trans (congrArg some (by kernel_rfl))
  f166 := Tryz.func109.trans (congrArg some (by kernel_rfl))
  f169 := Tryz.func110.trans (congrArg some (by kernel_rfl))
  f240 := Tryz.func142.trans (congrArg some (by kernel_rfl))
  f241 := Tryz.func143.trans (congrArg some (by kernel_rfl))
  f276 := Tryz.func166.trans (congrArg some (by kernel_rfl))
  f277 := Tryz.func167.trans (congrArg some (by kernel_rfl))
  t0 := Tryz.underlying0
  a0 := Tryz.isAgg0
  z0 := Tryz.sizeOf0
  v0 := Tryz.zeroValue0
  t3 := Tryz.underlying3
  a3 := Tryz.isAgg3
  z3 := Tryz.sizeOf3
  v3 := Tryz.zeroValue3
  t4 := Tryz.underlying4
  a4 := Tryz.isAgg4
  z4 := Tryz.sizeOf4
  v4 := Tryz.zeroValue4
  t9 := Tryz.underlying9
  a9 := Tryz.isAgg9
  z9 := Tryz.sizeOf9
  v9 := Tryz.zeroValue9
  t20 := Tryz.underlying20
  a20 := Tryz.isAgg20
  z20 := Tryz.sizeOf20
  v20 := Tryz.zeroValue20
  t31 := Tryz.underlying67
  a31 := Tryz.isAgg67
  z31 := Tryz.sizeOf67
  v31 := Tryz.zeroValue67
  t37 := Tryz.underlying22
  a37 := Tryz.isAgg22
  z37 := Tryz.sizeOf22
  v37 := Tryz.zeroValue22
  t70 := Tryz.underlying125
  a70 := Tryz.isAgg125
  z70 := Tryz.sizeOf125
  v70 := Tryz.zeroValue125
  t72 := Tryz.underlying127
  a72 := Tryz.isAgg127
  z72 := Tryz.sizeOf127
  v72 := Tryz.zeroValue127
  t75 := Tryz.underlying110
  a75 := Tryz.isAgg110
  z75 := Tryz.sizeOf110
  v75 := Tryz.zeroValue110
  t76 := Tryz.underlying129
  a76 := Tryz.isAgg129
  z76 := Tryz.sizeOf129
  v76 := Tryz.zeroValue129
  t127 := Tryz.underlying148
  a127 := Tryz.isAgg148
  z127 := Tryz.sizeOf148
  v127 := Tryz.zeroValue148
  t164 := Tryz.underlying168
  a164 := Tryz.isAgg168
  z164 := Tryz.sizeOf168
  v164 := Tryz.zeroValue168 }
theorem Tryz.Builder_Extra_156 : Builder.Extra Tryz.prog Tryz.lays156_ren := {
  sizeBuilder := by kernel_rfl
  liesBuilder := by kernel_rfl
  t5 := Tryz.underlying5
  a5 := Tryz.isAgg5
  z5 := Tryz.sizeOf5
  v5 := Tryz.zeroValue5
  infoByte := by kernel_rfl
  cellsByte := by kernel_rfl
  sizeByte := by kernel_rfl
  neB5 := by decide }
open Go.RowKit in
/-- strings.Join: "Join concatenates the elements of its first argument to create a single string. The separator string sep is placed between elements in the resulting string.": HOWEVER MANY ELEMENTS. Below the heap's end the world is as it was. (LAID: no walk: one application.) -/
theorem Tryz.strings_Join (bk o c : Nat) (xs : List ByteArray) (sep : ByteArray) (w : World) (hcells : ∀ (j : Nat) x, xs[j]? = some x → w.cell? ⟨bk, o + j, none⟩ = some (.string x)) (hbk : bk < w.heap.size) (hN : xs.length ≤ 140737488355328) (hcap : xs.length ≤ c) (hlen : (Lib.join (xs.map (·.data.toList)) sep.data.toList).length ≤ 140737488355328) :
    Calls Tryz.prog 77 #[.slice (some ⟨bk, o, none⟩) xs.length c, .string sep] w fun e w' => e = .returned (.string ⟨(Lib.join (xs.map (·.data.toList)) sep.data.toList).toArray⟩) ∧ Below w.heap.size w w' := Any.strings_Join Tryz.lays156 Tryz.Builder_Extra_156 bk o c xs sep w hcells hbk hN hcap hlen
def Tryz.laysM173_ren : Go.Shelf.Ren := ⟨fun | 173 => 119 | 246 => 147 | 283 => 168 | 284 => 169 | 285 => 170 | 286 => 171 | 129 => 186 | 317 => 185 | 318 => 187 | 319 => 188 | 320 => 189 | 337 => 195 | 338 => 196 | n => n, fun | 2 => 2 | 3 => 3 | 9 => 9 | 4 => 4 | 171 => 172 | 0 => 0 | 53 => 154 | 37 => 22 | 5 => 5 | 173 => 175 | 212 => 188 | 51 => 160 | 20 => 20 | 213 => 189 | 46 => 138 | 232 => 203 | 233 => 204 | n => n, fun | 17 => 3 | 18 => 6 | 19 => 7 | n => n⟩
theorem Tryz.laysM173 : Go.Proofs.LaysM.n173 Tryz.prog Tryz.laysM173_ren := {
  mixed := by kernel_rfl
  f129 := Tryz.func186.trans (congrArg some (by kernel_rfl))
  f173 := Tryz.func119.trans (congrArg some (by kernel_rfl))
  f246 := Tryz.func147.trans (congrArg some (by kernel_rfl))
  f283 := Tryz.func168.trans (congrArg some (by kernel_rfl))
  f284 := Tryz.func169.trans (congrArg some (by kernel_rfl))
  f285 := Tryz.func170.trans (congrArg some (by kernel_rfl))
  f286 := Tryz.func171.trans (congrArg some (by kernel_rfl))
  f317 := Tryz.func185.trans (congrArg some (by kernel_rfl))
  f318 := Tryz.func187.trans (congrArg some (by kernel_rfl))
  f319 := Tryz.func188.trans (congrArg some (by kernel_rfl))
  f320 := Tryz.func189.trans (congrArg some (by kernel_rfl))
  f337 := Tryz.func195.trans (congrArg some (by kernel_rfl))
  f338 := Tryz.func196.trans (congrArg some (by kernel_rfl))
  t0 := Tryz.underlying0
  a0 := Tryz.isAgg0
  z0 := Tryz.sizeOf0
  v0 := Tryz.zeroValue0
  t2 := Tryz.underlying2
  a2 := Tryz.isAgg2
  z2 := Tryz.sizeOf2
  v2 := Tryz.zeroValue2
  t3 := Tryz.underlying3
  a3 := Tryz.isAgg3
  z3 := Tryz.sizeOf3
  v3 := Tryz.zeroValue3
  t4 := Tryz.underlying4
  a4 := Tryz.isAgg4
  z4 := Tryz.sizeOf4
  v4 := Tryz.zeroValue4
  t5 := Tryz.underlying5
  a5 := Tryz.isAgg5
  z5 := Tryz.sizeOf5
  v5 := Tryz.zeroValue5
  t9 := Tryz.underlying9
  a9 := Tryz.isAgg9
  z9 := Tryz.sizeOf9
  v9 := Tryz.zeroValue9
  t20 := Tryz.underlying20
  a20 := Tryz.isAgg20
  z20 := Tryz.sizeOf20
  v20 := Tryz.zeroValue20
  t37 := Tryz.underlying22
  a37 := Tryz.isAgg22
  z37 := Tryz.sizeOf22
  v37 := Tryz.zeroValue22
  t46 := Tryz.underlying138
  a46 := Tryz.isAgg138
  z46 := Tryz.sizeOf138
  v46 := Tryz.zeroValue138
  t51 := Tryz.underlying160
  a51 := Tryz.isAgg160
  z51 := Tryz.sizeOf160
  v51 := Tryz.zeroValue160
  t53 := Tryz.underlying154
  a53 := Tryz.isAgg154
  z53 := Tryz.sizeOf154
  v53 := Tryz.zeroValue154
  t171 := Tryz.underlying172
  a171 := Tryz.isAgg172
  z171 := Tryz.sizeOf172
  v171 := Tryz.zeroValue172
  t173 := Tryz.underlying175
  a173 := Tryz.isAgg175
  z173 := Tryz.sizeOf175
  v173 := Tryz.zeroValue175
  t212 := Tryz.underlying188
  a212 := Tryz.isAgg188
  z212 := Tryz.sizeOf188
  v212 := Tryz.zeroValue188
  t213 := Tryz.underlying189
  a213 := Tryz.isAgg189
  z213 := Tryz.sizeOf189
  t232 := Tryz.underlying203
  a232 := Tryz.isAgg203
  z232 := Tryz.sizeOf203
  v232 := Tryz.zeroValue203
  t233 := Tryz.underlying204
  a233 := Tryz.isAgg204
  z233 := Tryz.sizeOf204
  v233 := Tryz.zeroValue204
  g17 := by kernel_rfl
  g18 := by kernel_rfl
  g19 := by kernel_rfl
  i0 := by kernel_rfl
  i2 := by kernel_rfl
  i3 := by kernel_rfl
  i4 := by kernel_rfl
  i5 := by kernel_rfl
  i9 := by kernel_rfl
  i20 := by kernel_rfl
  i37 := by kernel_rfl
  i46 := by kernel_rfl
  i51 := by kernel_rfl
  i53 := by kernel_rfl
  i171 := by kernel_rfl
  i173 := by kernel_rfl
  i212 := by kernel_rfl
  i232 := by kernel_rfl
  i233 := by kernel_rfl
  m17 := by kernel_rfl
  m18 := by kernel_rfl
  m19 := by kernel_rfl }
open Go.RowKit Go.Sort Go.Lib in
/-- strconv.FormatInt: "FormatInt returns the string representation of i in the given base": AT BASE 10: i's decimal numeral, for every int64. (LAID: no walk: one application.) -/
theorem Tryz.strconv_FormatInt_10 (n : Int) (h0 : -9223372036854775808 ≤ n) (h1 : n ≤ 9223372036854775807) (w : World) (htab : Lib.TabIs Tryz.prog w "internal/strconv.uint64pow10" .u64 Lib.pow10Tab) :
    Calls Tryz.prog 119 #[.int .i64 n, .int .i64 10] w fun e w' => e = .returned (.string ⟨(Lib.itoa n).toArray⟩) ∧ ∃ k os, w' = grow (w.drewN k) os := Any.strconv_FormatInt_10 Tryz.laysM173 n h0 h1 w htab
def Tryz.laysC174_ren : Go.Shelf.Ren := ⟨fun | 174 => 90 | 247 => 123 | 245 => 124 | 287 => 151 | 279 => 152 | 280 => 153 | 281 => 154 | 282 => 155 | 321 => 173 | 322 => 174 | 316 => 175 | 171 => 177 | 205 => 176 | 243 => 190 | 246 => 147 | 283 => 168 | 284 => 169 | 285 => 170 | 286 => 171 | 129 => 186 | 317 => 185 | 318 => 187 | 319 => 188 | 320 => 189 | 337 => 195 | 338 => 196 | n => n, fun | 9 => 9 | 3 => 3 | 2 => 2 | 75 => 110 | 85 => 111 | 4 => 4 | 167 => 153 | 5 => 5 | 53 => 154 | 175 => 155 | 46 => 138 | 168 => 157 | 37 => 22 | 0 => 0 | 210 => 181 | 21 => 21 | 127 => 148 | 145 => 198 | 143 => 196 | 171 => 172 | 173 => 175 | 212 => 188 | 51 => 160 | 20 => 20 | 213 => 189 | 232 => 203 | 233 => 204 | 80 => 131 | n => n, fun | 15 => 1 | 16 => 2 | 17 => 3 | 18 => 6 | 19 => 7 | n => n⟩
theorem Tryz.laysC174 : Go.Proofs.LaysC.n174 Tryz.prog Tryz.laysC174_ren := {
  mixed := by kernel_rfl
  f129 := Tryz.func186.trans (congrArg some (by kernel_rfl))
  f171 := Tryz.func177.trans (congrArg some (by kernel_rfl))
  f174 := Tryz.func90.trans (congrArg some (by kernel_rfl))
  f205 := Tryz.func176.trans (congrArg some (by kernel_rfl))
  f243 := Tryz.func190.trans (congrArg some (by kernel_rfl))
  f245 := Tryz.func124.trans (congrArg some (by kernel_rfl))
  f246 := Tryz.func147.trans (congrArg some (by kernel_rfl))
  f247 := Tryz.func123.trans (congrArg some (by kernel_rfl))
  f279 := Tryz.func152.trans (congrArg some (by kernel_rfl))
  f280 := Tryz.func153.trans (congrArg some (by kernel_rfl))
  f281 := Tryz.func154.trans (congrArg some (by kernel_rfl))
  f282 := Tryz.func155.trans (congrArg some (by kernel_rfl))
  f283 := Tryz.func168.trans (congrArg some (by kernel_rfl))
  f284 := Tryz.func169.trans (congrArg some (by kernel_rfl))
  f285 := Tryz.func170.trans (congrArg some (by kernel_rfl))
  f286 := Tryz.func171.trans (congrArg some (by kernel_rfl))
  f287 := Tryz.func151.trans (congrArg some (by kernel_rfl))
  f316 := Tryz.func175.trans (congrArg some (by kernel_rfl))
  f317 := Tryz.func185.trans (congrArg some (by kernel_rfl))
  f318 := Tryz.func187.trans (congrArg some (by kernel_rfl))
  f319 := Tryz.func188.trans (congrArg some (by kernel_rfl))
  f320 := Tryz.func189.trans (congrArg some (by kernel_rfl))
  f321 := Tryz.func173.trans (congrArg some (by kernel_rfl))
  f322 := Tryz.func174.trans (congrArg some (by kernel_rfl))
  f337 := Tryz.func195.trans (congrArg some (by kernel_rfl))
  f338 := Tryz.func196.trans (congrArg some (by kernel_rfl))
  t0 := Tryz.underlying0
  a0 := Tryz.isAgg0
  z0 := Tryz.sizeOf0
  v0 := Tryz.zeroValue0
  t2 := Tryz.underlying2
  a2 := Tryz.isAgg2
  z2 := Tryz.sizeOf2
  v2 := Tryz.zeroValue2
  t3 := Tryz.underlying3
  a3 := Tryz.isAgg3
  z3 := Tryz.sizeOf3
  v3 := Tryz.zeroValue3
  t4 := Tryz.underlying4
  a4 := Tryz.isAgg4
  z4 := Tryz.sizeOf4
  v4 := Tryz.zeroValue4
  t5 := Tryz.underlying5
  a5 := Tryz.isAgg5
  z5 := Tryz.sizeOf5
  v5 := Tryz.zeroValue5
  t9 := Tryz.underlying9
  a9 := Tryz.isAgg9
  z9 := Tryz.sizeOf9
  v9 := Tryz.zeroValue9
  t20 := Tryz.underlying20
  a20 := Tryz.isAgg20
  z20 := Tryz.sizeOf20
  v20 := Tryz.zeroValue20
  t21 := Tryz.underlying21
  a21 := Tryz.isAgg21
  z21 := Tryz.sizeOf21
  v21 := Tryz.zeroValue21
  t37 := Tryz.underlying22
  a37 := Tryz.isAgg22
  z37 := Tryz.sizeOf22
  v37 := Tryz.zeroValue22
  t46 := Tryz.underlying138
  a46 := Tryz.isAgg138
  z46 := Tryz.sizeOf138
  v46 := Tryz.zeroValue138
  t51 := Tryz.underlying160
  a51 := Tryz.isAgg160
  z51 := Tryz.sizeOf160
  v51 := Tryz.zeroValue160
  t53 := Tryz.underlying154
  a53 := Tryz.isAgg154
  z53 := Tryz.sizeOf154
  v53 := Tryz.zeroValue154
  t75 := Tryz.underlying110
  a75 := Tryz.isAgg110
  z75 := Tryz.sizeOf110
  v75 := Tryz.zeroValue110
  t85 := Tryz.underlying111
  a85 := Tryz.isAgg111
  z85 := Tryz.sizeOf111
  v85 := Tryz.zeroValue111
  t127 := Tryz.underlying148
  a127 := Tryz.isAgg148
  z127 := Tryz.sizeOf148
  v127 := Tryz.zeroValue148
  t143 := Tryz.underlying196
  a143 := Tryz.isAgg196
  z143 := Tryz.sizeOf196
  v143 := Tryz.zeroValue196
  t145 := Tryz.underlying198
  a145 := Tryz.isAgg198
  z145 := Tryz.sizeOf198
  v145 := Tryz.zeroValue198
  t167 := Tryz.underlying153
  a167 := Tryz.isAgg153
  z167 := Tryz.sizeOf153
  v167 := Tryz.zeroValue153
  t168 := Tryz.underlying157
  a168 := Tryz.isAgg157
  z168 := Tryz.sizeOf157
  v168 := Tryz.zeroValue157
  t171 := Tryz.underlying172
  a171 := Tryz.isAgg172
  z171 := Tryz.sizeOf172
  v171 := Tryz.zeroValue172
  t173 := Tryz.underlying175
  a173 := Tryz.isAgg175
  z173 := Tryz.sizeOf175
  v173 := Tryz.zeroValue175
  t175 := Tryz.underlying155
  a175 := Tryz.isAgg155
  z175 := Tryz.sizeOf155
  v175 := Tryz.zeroValue155
  t210 := Tryz.underlying181
  a210 := Tryz.isAgg181
  z210 := Tryz.sizeOf181
  v210 := Tryz.zeroValue181
  t212 := Tryz.underlying188
  a212 := Tryz.isAgg188
  z212 := Tryz.sizeOf188
  v212 := Tryz.zeroValue188
  t213 := Tryz.underlying189
  a213 := Tryz.isAgg189
  z213 := Tryz.sizeOf189
  t232 := Tryz.underlying203
  a232 := Tryz.isAgg203
  z232 := Tryz.sizeOf203
  v232 := Tryz.zeroValue203
  t233 := Tryz.underlying204
  a233 := Tryz.isAgg204
  z233 := Tryz.sizeOf204
  v233 := Tryz.zeroValue204
  g15 := by kernel_rfl
  g16 := by kernel_rfl
  g17 := by kernel_rfl
  g18 := by kernel_rfl
  g19 := by kernel_rfl
  t80 := Tryz.underlying131
  a80 := Tryz.isAgg131
  z80 := Tryz.sizeOf131
  v80 := Tryz.zeroValue131
  i0 := by kernel_rfl
  i2 := by kernel_rfl
  i3 := by kernel_rfl
  i4 := by kernel_rfl
  i5 := by kernel_rfl
  i9 := by kernel_rfl
  i20 := by kernel_rfl
  i21 := by kernel_rfl
  i37 := by kernel_rfl
  i46 := by kernel_rfl
  i51 := by kernel_rfl
  i53 := by kernel_rfl
  i75 := by kernel_rfl
  i80 := by kernel_rfl
  i85 := by kernel_rfl
  i127 := by kernel_rfl
  i143 := by kernel_rfl
  i145 := by kernel_rfl
  i167 := by kernel_rfl
  i168 := by kernel_rfl
  i171 := by kernel_rfl
  i173 := by kernel_rfl
  i175 := by kernel_rfl
  i210 := by kernel_rfl
  i212 := by kernel_rfl
  i232 := by kernel_rfl
  i233 := by kernel_rfl
  m15 := by kernel_rfl
  m16 := by kernel_rfl
  m17 := by kernel_rfl
  m18 := by kernel_rfl
  m19 := by kernel_rfl
  c0 := by kernel_rfl
  c2 := by kernel_rfl
  c3 := by kernel_rfl
  c4 := by kernel_rfl
  c5 := by kernel_rfl
  c9 := by kernel_rfl
  c20 := by kernel_rfl
  c21 := by kernel_rfl
  c37 := by kernel_rfl
  c46 := by kernel_rfl
  c51 := by kernel_rfl
  c53 := by kernel_rfl
  c75 := by kernel_rfl
  c80 := by kernel_rfl
  c85 := by kernel_rfl
  c127 := by kernel_rfl
  c143 := by kernel_rfl
  c145 := by kernel_rfl
  c167 := by kernel_rfl
  c168 := by kernel_rfl
  c171 := by kernel_rfl
  c173 := by kernel_rfl
  c175 := by kernel_rfl
  c210 := by kernel_rfl
  c212 := by kernel_rfl
  c213 := by kernel_rfl
  c232 := by kernel_rfl
  c233 := by kernel_rfl }
open Go.RowKit in
/-- strconv.ParseInt(s, 10, 64), AT EVERY STRING THAT SPELLS AN int64 ('Lib.parseIntB 64 s.data.toList = .ok v'): v, AND NO ERROR. (LAID: no walk: one application.) -/
theorem Tryz.strconv_ParseInt_10_at64_ok (s : ByteArray) (hmax : s.size ≤ 9223372036854775806) (v : Int) (h : Lib.parseIntB 64 s.data.toList = .ok v) (w : World) :
    Calls Tryz.prog 90 #[.string s, .int .i64 10, .int .i64 64] w fun e w' => e = .returned (.tuple #[.int .i64 v, .nilIface]) ∧ (w' = w ∨ ∃ t, w' = Lib.bytesWorld w 5 t) := Any.strconv_ParseInt_10_at64_ok Tryz.laysC174 s hmax v h w
open Go.RowKit in
/-- strconv.ParseInt(s, 10, 64), AT EVERY STRING THAT IS NO DECIMAL NUMERAL: 0, AND AN ERROR THAT IS NOT nil: a *NumError in a new block N: {Func: "ParseInt", Num: s's bytes, Err: what the variable ErrSyntax holds}. Of what was there nothing has turned. (LAID: no walk: one application.) -/
theorem Tryz.strconv_ParseInt_10_at64_syntax (s : ByteArray) (hlim : s.size ≤ 281474976710656) (h : Lib.parseIntB 64 s.data.toList = Lib.parseIntB 64 []) (ev : Value) (w : World) (hv : w.cell? ⟨1, 0, none⟩ = some ev) (hev : ev = .nilIface ∨ ∃ te pe, ev = .iface te pe) :
    Calls Tryz.prog 90 #[.string s, .int .i64 10, .int .i64 64] w fun e w' => ∃ N, e = .returned (.tuple #[.int .i64 (0), .iface 157 (.pointer (some ⟨N, 0, none⟩))]) ∧ w.heap.size ≤ N ∧ w'.heap[N]? = some (.cells #[.string ⟨#[80, 97, 114, 115, 101, 73, 110, 116]⟩, .string s, ev] 181 (0, 0)) ∧ Below w.heap.size w w' := Any.strconv_ParseInt_10_at64_syntax Tryz.laysC174 s hlim h ev w hv hev
open Go.RowKit in
/-- strconv.ParseInt(s, 10, 64), AT EVERY NUMERAL THAT NO int64 HOLDS: THE GREATEST OR THE LEAST int64, BY THE SIGN ('Lib.intSat 64'), AND AN ERROR THAT IS NOT nil: a *NumError in a new block N: {Func: "ParseInt", Num: s's bytes, Err: what the variable ErrRange holds}. Of what was there nothing has turned. (LAID: no walk: one application.) -/
theorem Tryz.strconv_ParseInt_10_at64_range (s : ByteArray) (hlim : s.size ≤ 281474976710656) (h : Lib.parseIntB 64 s.data.toList = .range) (ev : Value) (w : World) (hv : w.cell? ⟨2, 0, none⟩ = some ev) (hev : ev = .nilIface ∨ ∃ te pe, ev = .iface te pe) :
    Calls Tryz.prog 90 #[.string s, .int .i64 10, .int .i64 64] w fun e w' => ∃ N, e = .returned (.tuple #[.int .i64 (Lib.intSat 64 s.data.toList), .iface 157 (.pointer (some ⟨N, 0, none⟩))]) ∧ w.heap.size ≤ N ∧ w'.heap[N]? = some (.cells #[.string ⟨#[80, 97, 114, 115, 101, 73, 110, 116]⟩, .string s, ev] 181 (0, 0)) ∧ Below w.heap.size w w' := Any.strconv_ParseInt_10_at64_range Tryz.laysC174 s hlim h ev w hv hev
def Tryz.lays143_ren : Go.Shelf.Ren := ⟨fun | 143 => 46 | 219 => 91 | 217 => 125 | 225 => 126 | 224 => 127 | 267 => 128 | 266 => 156 | 314 => 157 | n => n, fun | 9 => 9 | 3 => 3 | 4 => 4 | 5 => 5 | 46 => 138 | 146 => 161 | 51 => 160 | n => n, fun | 1 => 0 | n => n⟩
theorem Tryz.lays143 : Go.Proofs.Lays.n143 Tryz.prog Tryz.lays143_ren := {
  mixed := by kernel_rfl
  f143 := Tryz.func46.trans (congrArg some (by kernel_rfl))
  f217 := Tryz.func125.trans (congrArg some (by kernel_rfl))
  f219 := Tryz.func91.trans (congrArg some (by kernel_rfl))
  f224 := Tryz.func127.trans (congrArg some (by kernel_rfl))
  f225 := Tryz.func126.trans (congrArg some (by kernel_rfl))
  f266 := Tryz.func156.trans (congrArg some (by kernel_rfl))
  f267 := Tryz.func128.trans (congrArg some (by kernel_rfl))
  f314 := Tryz.func157.trans (congrArg some (by kernel_rfl))
  t3 := Tryz.underlying3
  a3 := Tryz.isAgg3
  z3 := Tryz.sizeOf3
  v3 := Tryz.zeroValue3
  t4 := Tryz.underlying4
  a4 := Tryz.isAgg4
  z4 := Tryz.sizeOf4
  v4 := Tryz.zeroValue4
  t5 := Tryz.underlying5
  a5 := Tryz.isAgg5
  z5 := Tryz.sizeOf5
  v5 := Tryz.zeroValue5
  t9 := Tryz.underlying9
  a9 := Tryz.isAgg9
  z9 := Tryz.sizeOf9
  v9 := Tryz.zeroValue9
  t46 := Tryz.underlying138
  a46 := Tryz.isAgg138
  z46 := Tryz.sizeOf138
  v46 := Tryz.zeroValue138
  t51 := Tryz.underlying160
  a51 := Tryz.isAgg160
  z51 := Tryz.sizeOf160
  v51 := Tryz.zeroValue160
  t146 := Tryz.underlying161
  a146 := Tryz.isAgg161
  z146 := Tryz.sizeOf161
  v146 := Tryz.zeroValue161
  g1 := by kernel_rfl }
open Go.RowKit Go.Lib in
/-- strings.Index: "Index returns the index of the first instance of substr in s, or -1 if substr is not present in s.": AT A substr OF ONE BYTE c: IT RETURNS 'Lib.indexByte s c'; the world is as it was. (LAID: no walk: one application.) -/
theorem Tryz.strings_Index_one (s : ByteArray) (c : UInt8) (w : World) :
    Calls Tryz.prog 46 #[.string s, .string ⟨#[c]⟩] w fun e w' => e = .returned (.int .i64 (Lib.indexByte s.data.toList c)) ∧ w' = w := Any.strings_Index_one Tryz.lays143 s c w
def Tryz.lays144_ren : Go.Shelf.Ren := ⟨fun | 144 => 44 | 143 => 46 | 219 => 91 | 217 => 125 | 225 => 126 | 224 => 127 | 267 => 128 | 266 => 156 | 314 => 157 | n => n, fun | 9 => 9 | 4 => 4 | 3 => 3 | 5 => 5 | 46 => 138 | 146 => 161 | 51 => 160 | n => n, fun | 1 => 0 | n => n⟩
theorem Tryz.lays144 : Go.Proofs.Lays.n144 Tryz.prog Tryz.lays144_ren := {
  mixed := by kernel_rfl
  f143 := Tryz.func46.trans (congrArg some (by kernel_rfl))
  f144 := Tryz.func44.trans (congrArg some (by kernel_rfl))
  f217 := Tryz.func125.trans (congrArg some (by kernel_rfl))
  f219 := Tryz.func91.trans (congrArg some (by kernel_rfl))
  f224 := Tryz.func127.trans (congrArg some (by kernel_rfl))
  f225 := Tryz.func126.trans (congrArg some (by kernel_rfl))
  f266 := Tryz.func156.trans (congrArg some (by kernel_rfl))
  f267 := Tryz.func128.trans (congrArg some (by kernel_rfl))
  f314 := Tryz.func157.trans (congrArg some (by kernel_rfl))
  t3 := Tryz.underlying3
  a3 := Tryz.isAgg3
  z3 := Tryz.sizeOf3
  v3 := Tryz.zeroValue3
  t4 := Tryz.underlying4
  a4 := Tryz.isAgg4
  z4 := Tryz.sizeOf4
  v4 := Tryz.zeroValue4
  t5 := Tryz.underlying5
  a5 := Tryz.isAgg5
  z5 := Tryz.sizeOf5
  v5 := Tryz.zeroValue5
  t9 := Tryz.underlying9
  a9 := Tryz.isAgg9
  z9 := Tryz.sizeOf9
  v9 := Tryz.zeroValue9
  t46 := Tryz.underlying138
  a46 := Tryz.isAgg138
  z46 := Tryz.sizeOf138
  v46 := Tryz.zeroValue138
  t51 := Tryz.underlying160
  a51 := Tryz.isAgg160
  z51 := Tryz.sizeOf160
  v51 := Tryz.zeroValue160
  t146 := Tryz.underlying161
  a146 := Tryz.isAgg161
  z146 := Tryz.sizeOf161
  v146 := Tryz.zeroValue161
  g1 := by kernel_rfl }
open Go.RowKit Go.Lib in
/-- strings.Contains: "Contains reports whether substr is within s.": AT A substr OF ONE BYTE c: IT RETURNS 'decide (0 ≤ Lib.indexByte s c)'; the world is as it was. (LAID: no walk: one application.) -/
theorem Tryz.strings_Contains_one (s : ByteArray) (c : UInt8) (w : World) :
    Calls Tryz.prog 44 #[.string s, .string ⟨#[c]⟩] w fun e w' => e = .returned (.bool (decide (0 ≤ Lib.indexByte s.data.toList c))) ∧ w' = w := Any.strings_Contains_one Tryz.lays144 s c w
def Tryz.lays146_ren : Go.Shelf.Ren := ⟨fun | 146 => 43 | 221 => 89 | 268 => 121 | 138 => 122 | 143 => 46 | 195 => 148 | 197 => 149 | 218 => 150 | 219 => 91 | 260 => 172 | 217 => 125 | 225 => 126 | 224 => 127 | 267 => 128 | 266 => 156 | 314 => 157 | n => n, fun | 9 => 9 | 31 => 67 | 3 => 3 | 4 => 4 | 0 => 0 | 105 => 151 | 21 => 21 | 5 => 5 | 46 => 138 | 119 => 192 | 139 => 195 | 138 => 194 | 146 => 161 | 51 => 160 | n => n, fun | 1 => 0 | 3 => 4 | 4 => 5 | n => n⟩
theorem Tryz.lays146 : Go.Proofs.Lays.n146 Tryz.prog Tryz.lays146_ren := {
  mixed := by kernel_rfl
  f138 := Tryz.func122.trans (congrArg some (by kernel_rfl))
  f143 := Tryz.func46.trans (congrArg some (by kernel_rfl))
  f146 := Tryz.func43.trans (congrArg some (by kernel_rfl))
  f195 := Tryz.func148.trans (congrArg some (by kernel_rfl))
  f197 := Tryz.func149.trans (congrArg some (by kernel_rfl))
  f217 := Tryz.func125.trans (congrArg some (by kernel_rfl))
  f218 := Tryz.func150.trans (congrArg some (by kernel_rfl))
  f219 := Tryz.func91.trans (congrArg some (by kernel_rfl))
  f221 := Tryz.func89.trans (congrArg some (by kernel_rfl))
  f224 := Tryz.func127.trans (congrArg some (by kernel_rfl))
  f225 := Tryz.func126.trans (congrArg some (by kernel_rfl))
  f260 := Tryz.func172.trans (congrArg some (by kernel_rfl))
  f266 := Tryz.func156.trans (congrArg some (by kernel_rfl))
  f267 := Tryz.func128.trans (congrArg some (by kernel_rfl))
  f268 := Tryz.func121.trans (congrArg some (by kernel_rfl))
  f314 := Tryz.func157.trans (congrArg some (by kernel_rfl))
  t0 := Tryz.underlying0
  a0 := Tryz.isAgg0
  z0 := Tryz.sizeOf0
  v0 := Tryz.zeroValue0
  t3 := Tryz.underlying3
  a3 := Tryz.isAgg3
  z3 := Tryz.sizeOf3
  v3 := Tryz.zeroValue3
  t4 := Tryz.underlying4
  a4 := Tryz.isAgg4
  z4 := Tryz.sizeOf4
  v4 := Tryz.zeroValue4
  t5 := Tryz.underlying5
  a5 := Tryz.isAgg5
  z5 := Tryz.sizeOf5
  v5 := Tryz.zeroValue5
  t9 := Tryz.underlying9
  a9 := Tryz.isAgg9
  z9 := Tryz.sizeOf9
  v9 := Tryz.zeroValue9
  t21 := Tryz.underlying21
  a21 := Tryz.isAgg21
  z21 := Tryz.sizeOf21
  v21 := Tryz.zeroValue21
  t31 := Tryz.underlying67
  a31 := Tryz.isAgg67
  z31 := Tryz.sizeOf67
  v31 := Tryz.zeroValue67
  t46 := Tryz.underlying138
  a46 := Tryz.isAgg138
  z46 := Tryz.sizeOf138
  v46 := Tryz.zeroValue138
  t51 := Tryz.underlying160
  a51 := Tryz.isAgg160
  z51 := Tryz.sizeOf160
  v51 := Tryz.zeroValue160
  t105 := Tryz.underlying151
  a105 := Tryz.isAgg151
  z105 := Tryz.sizeOf151
  v105 := Tryz.zeroValue151
  t119 := Tryz.underlying192
  a119 := Tryz.isAgg192
  z119 := Tryz.sizeOf192
  t138 := Tryz.underlying194
  a138 := Tryz.isAgg194
  z138 := Tryz.sizeOf194
  v138 := Tryz.zeroValue194
  t139 := Tryz.underlying195
  a139 := Tryz.isAgg195
  z139 := Tryz.sizeOf195
  v139 := Tryz.zeroValue195
  t146 := Tryz.underlying161
  a146 := Tryz.isAgg161
  z146 := Tryz.sizeOf161
  v146 := Tryz.zeroValue161
  g1 := by kernel_rfl
  g3 := by kernel_rfl
  g4 := by kernel_rfl }
open Go.RowKit Go.Lib in
/-- strings.Split. (LAID: no walk: one application.) -/
theorem Tryz.strings_Split (s sep : ByteArray) (m : Int) (w : World) (hs : s.size < 4294967281) (hm : w.cell? ⟨0, 0, none⟩ = some (.int .i64 m)) (h1 : 1 ≤ sep.size) :
    Calls Tryz.prog 43 #[.string s, .string sep] w fun e w' =>
      e = .returned (.slice (some ⟨w.heap.size, 0, none⟩) (Lib.countB s sep + 1) (Lib.countB s sep + 1)) ∧ w' = w.alloc (.cells ((Lib.splitB sep 0 (Lib.countB s sep) s).map Value.string).toArray 9) := Any.strings_Split Tryz.lays146 (by kernel_rfl) s sep m w hs hm h1
def Tryz.laysM146_ren : Go.Shelf.Ren := ⟨fun | 146 => 43 | 221 => 89 | 268 => 121 | 138 => 122 | 143 => 46 | 195 => 148 | 197 => 149 | 218 => 150 | 219 => 91 | 260 => 172 | 217 => 125 | 225 => 126 | 224 => 127 | 267 => 128 | 266 => 156 | 314 => 157 | n => n, fun | 9 => 9 | 31 => 67 | 3 => 3 | 4 => 4 | 0 => 0 | 105 => 151 | 21 => 21 | 5 => 5 | 46 => 138 | 119 => 192 | 139 => 195 | 138 => 194 | 146 => 161 | 51 => 160 | n => n, fun | 1 => 0 | 3 => 4 | 4 => 5 | n => n⟩
theorem Tryz.laysM146 : Go.Proofs.LaysM.n146 Tryz.prog Tryz.laysM146_ren := {
  mixed := by kernel_rfl
  f138 := Tryz.func122.trans (congrArg some (by kernel_rfl))
  f143 := Tryz.func46.trans (congrArg some (by kernel_rfl))
  f146 := Tryz.func43.trans (congrArg some (by kernel_rfl))
  f195 := Tryz.func148.trans (congrArg some (by kernel_rfl))
  f197 := Tryz.func149.trans (congrArg some (by kernel_rfl))
  f217 := Tryz.func125.trans (congrArg some (by kernel_rfl))
  f218 := Tryz.func150.trans (congrArg some (by kernel_rfl))
  f219 := Tryz.func91.trans (congrArg some (by kernel_rfl))
  f221 := Tryz.func89.trans (congrArg some (by kernel_rfl))
  f224 := Tryz.func127.trans (congrArg some (by kernel_rfl))
  f225 := Tryz.func126.trans (congrArg some (by kernel_rfl))
  f260 := Tryz.func172.trans (congrArg some (by kernel_rfl))
  f266 := Tryz.func156.trans (congrArg some (by kernel_rfl))
  f267 := Tryz.func128.trans (congrArg some (by kernel_rfl))
  f268 := Tryz.func121.trans (congrArg some (by kernel_rfl))
  f314 := Tryz.func157.trans (congrArg some (by kernel_rfl))
  t0 := Tryz.underlying0
  a0 := Tryz.isAgg0
  z0 := Tryz.sizeOf0
  v0 := Tryz.zeroValue0
  t3 := Tryz.underlying3
  a3 := Tryz.isAgg3
  z3 := Tryz.sizeOf3
  v3 := Tryz.zeroValue3
  t4 := Tryz.underlying4
  a4 := Tryz.isAgg4
  z4 := Tryz.sizeOf4
  v4 := Tryz.zeroValue4
  t5 := Tryz.underlying5
  a5 := Tryz.isAgg5
  z5 := Tryz.sizeOf5
  v5 := Tryz.zeroValue5
  t9 := Tryz.underlying9
  a9 := Tryz.isAgg9
  z9 := Tryz.sizeOf9
  v9 := Tryz.zeroValue9
  t21 := Tryz.underlying21
  a21 := Tryz.isAgg21
  z21 := Tryz.sizeOf21
  v21 := Tryz.zeroValue21
  t31 := Tryz.underlying67
  a31 := Tryz.isAgg67
  z31 := Tryz.sizeOf67
  v31 := Tryz.zeroValue67
  t46 := Tryz.underlying138
  a46 := Tryz.isAgg138
  z46 := Tryz.sizeOf138
  v46 := Tryz.zeroValue138
  t51 := Tryz.underlying160
  a51 := Tryz.isAgg160
  z51 := Tryz.sizeOf160
  v51 := Tryz.zeroValue160
  t105 := Tryz.underlying151
  a105 := Tryz.isAgg151
  z105 := Tryz.sizeOf151
  v105 := Tryz.zeroValue151
  t119 := Tryz.underlying192
  a119 := Tryz.isAgg192
  z119 := Tryz.sizeOf192
  t138 := Tryz.underlying194
  a138 := Tryz.isAgg194
  z138 := Tryz.sizeOf194
  v138 := Tryz.zeroValue194
  t139 := Tryz.underlying195
  a139 := Tryz.isAgg195
  z139 := Tryz.sizeOf195
  v139 := Tryz.zeroValue195
  t146 := Tryz.underlying161
  a146 := Tryz.isAgg161
  z146 := Tryz.sizeOf161
  v146 := Tryz.zeroValue161
  g1 := by kernel_rfl
  g3 := by kernel_rfl
  g4 := by kernel_rfl
  i0 := by kernel_rfl
  i3 := by kernel_rfl
  i4 := by kernel_rfl
  i5 := by kernel_rfl
  i9 := by kernel_rfl
  i21 := by kernel_rfl
  i31 := by kernel_rfl
  i46 := by kernel_rfl
  i51 := by kernel_rfl
  i105 := by kernel_rfl
  i138 := by kernel_rfl
  i139 := by kernel_rfl
  i146 := by kernel_rfl
  m1 := by kernel_rfl
  s1_3 := fun w h => Go.Proofs.cell_of_shapedOpen_int (zero := #[.int .i64 0]) (t := 3) h (of_decide_eq_true (by kernel_rfl)) (by kernel_rfl) rfl (by kernel_rfl) (by kernel_rfl) Tryz.underlying3
  m3 := by kernel_rfl
  m4 := by kernel_rfl }
end Go.Proofs
end
section
namespace Go.K
open Go.RowKit
theorem var_ext {P : Program} {w w' : World} {n : String} {cs : Array Value} (h : w.var? P n = some cs) (e : Ext w w') : w'.var? P n = some cs := by
  unfold World.var? at h ⊢
  cases hg : P.globalNamed n with
  | none => rw [hg] at h; cases h
  | some g =>
    rw [hg] at h
    simp only [Option.bind_some] at h ⊢
    cases ho : w.heap[g]? with
    | none => rw [ho] at h; cases h
    | some o =>
      rw [e.block ho]
      rw [ho] at h
      exact h
/-- the table of the powers of ten -/
structure TabV (P : Program) (w : World) : Prop where
  tab : Lib.TabIs P w "internal/strconv.uint64pow10" .u64 Lib.pow10Tab
theorem TabV.ext {P : Program} {w w' : World} (h : TabV P w) (e : Ext w w') : TabV P w' := ⟨var_ext h.tab e⟩
/-- what the library's functions ask of its variables -/
structure LibV (P : Program) (gM gS gR : Nat) (w : World) : Prop where
  tab : Lib.TabIs P w "internal/strconv.uint64pow10" .u64 Lib.pow10Tab
  maxl : ∃ m, w.cell? ⟨gM, 0, none⟩ = some (.int .i64 m)
  syn : ∃ ev, w.cell? ⟨gS, 0, none⟩ = some ev ∧ (ev = .nilIface ∨ ∃ te pe, ev = .iface te pe)
  rng : ∃ ev, w.cell? ⟨gR, 0, none⟩ = some ev ∧ (ev = .nilIface ∨ ∃ te pe, ev = .iface te pe)
theorem LibV.ext {P : Program} {gM gS gR : Nat} {w w' : World} (h : LibV P gM gS gR w) (e : Ext w w') : LibV P gM gS gR w' :=
  ⟨var_ext h.tab e, let ⟨m, hm⟩ := h.maxl; ⟨m, e.cell_of hm⟩, let ⟨v, hv, hh⟩ := h.syn; ⟨v, e.cell_of hv, hh⟩, let ⟨v, hv, hh⟩ := h.rng; ⟨v, e.cell_of hv, hh⟩⟩
theorem LibV.t {P : Program} {gM gS gR : Nat} {w : World} (h : LibV P gM gS gR w) : TabV P w := ⟨h.tab⟩
theorem str_beq (a b : ByteArray) : (a.toList == b.toList) = decide (a = b) := by
  rw [ByteArray.toList_eq, ByteArray.toList_eq]
  by_cases h : a = b
  · subst h; simp
  · rw [decide_eq_false h, beq_eq_false_iff_ne]
    intro e
    exact h (by rw [← Z.str_list a, ← Z.str_list b, e])
theorem cut_str {P : Program} {t : TypeId} {s : ByteArray} {i j : Nat} {a b : Int} (h : P.underlying t = some .string) (ha : a = (i : Int)) (hb : b = (j : Int)) (h1 : i ≤ j) (h2 : j ≤ s.size) (w : World) :
    (Instr.slice t (.string s) (some (.int .i64 a)) (some (.int .i64 b)) none).run P w = .ok (.string (s.extract i j)) w := by
  subst ha hb
  have := run_slice_string (P := P) w t s .i64 .i64 (i : Int) (j : Int) h (by omega) (by omega) (by omega)
  simpa using this
end Go.K
namespace Go.Proofs.YtmgocfdhngeeiaaGreatDoor
open Go.RowKit
/-- .. at this program -/
abbrev LTab (w : World) : Prop := K.TabV Tryz.prog w
abbrev LV (w : World) : Prop := K.LibV Tryz.prog 0 1 2 w
theorem decimal_any (n : Int) (w : World) (h0 : -9223372036854775808 ≤ n) (h1 : n ≤ 9223372036854775807) (hL : LTab w) :
    Calls Tryz.prog 87 #[.int .i64 n] w fun e w' => e = .returned (.string (Z.dec n)) ∧ K.Ext w w' := by
  go_enter Tryz.func87, Tryz.ntmps87
  go_wp2_with fail
  refine K.call (by with_reducible rfl) (by with_reducible rfl) (Tryz.strconv_FormatInt_10 n h0 h1 w hL.tab) ?_
  rintro e w1 ⟨rfl, k, os, rfl⟩
  go_wp2_with fail
  go_ret
  exact ⟨rfl, Lib.below_grow _ _ (Nat.le_refl _) _ _⟩
set_option maxRecDepth 100000 in
set_option maxHeartbeats 6400000 in
theorem l01Dec_any (u : Nat) : ∀ (w : World) (hu : u < 1000000000000000000),
    Calls Tryz.prog 120 #[.int .i64 (u : Int)] w fun e w' => e = .returned (.string (Z.str (Lib.decDigits u))) ∧ K.Ext w w' := by
  induction u using Nat.strongRecOn with
  | _ u ih =>
    intro w hu
    have hm : (u % 10 : Nat) < 10 := Nat.mod_lt _ (by decide)
    by_cases h : u < 10
    · have h10 : (u : Int) < 10 := by omega
      have q1 : IntKind.i64.wrap (48 + (u : Int)) = 48 + (u : Int) := IntWalk.i64_in _ (by omega)
      have q2 : IntKind.u8.wrap (48 + (u : Int)) = 48 + (u : Int) := IntWalk.u8_in _ (by omega)
      have hcv := K.byte_str (P := Tryz.prog) (w := w.alloc (.cells #[.int .u8 (48 + (u : Int))] 5)) (src := 22) (dst := 9) (c := 48 + (u : Int)) Tryz.underlying22 Tryz.underlying5 Tryz.underlying9 (by omega) (by omega) (K.block_new rfl)
      go_enter Tryz.func120, Tryz.ntmps120
      go_wp2
      go_ret
      refine ⟨?_, (K.Ext.refl _).alloc _⟩
      rw [Lib.decDigits_one h]
      rfl
    · have h10 : ¬ (u : Int) < 10 := by omega
      have q0 : (u : Int).tdiv 10 = ((u / 10 : Nat) : Int) := by rw [Int.tdiv_eq_ediv_of_nonneg (by omega)]; omega
      have q0' : (u : Int).tmod 10 = ((u % 10 : Nat) : Int) := by rw [Int.tmod_eq_emod_of_nonneg (by omega)]; omega
      obtain ⟨d, hd⟩ : ∃ d : Int, d = ((u / 10 : Nat) : Int) := ⟨_, rfl⟩
      obtain ⟨r, hr⟩ : ∃ r : Int, r = 48 + ((u % 10 : Nat) : Int) := ⟨_, rfl⟩
      have r0 : 0 ≤ r := by omega
      have r1 : r ≤ 255 := by omega
      have hdec : Lib.decDigits u = Lib.decDigits (u / 10) ++ [UInt8.ofNat r.toNat] := by
        rw [Lib.decDigits, dif_neg h, show r.toNat = 48 + u % 10 by omega]
      have hs : (Z.str (Lib.decDigits (u / 10))).size ≤ 18 := by rw [Z.str_size]; exact Z.decDigits_le (k := 17) (by omega)
      have IH : ∀ w', Calls Tryz.prog 120 #[.int .i64 d] w' fun e w'' => e = .returned (.string (Z.str (Lib.decDigits (u / 10)))) ∧ K.Ext w' w'' := fun w' => by rw [hd]; exact ih (u / 10) (by omega) w' (by omega)
      have hres : Z.str (Lib.decDigits (u / 10)) ++ ⟨#[UInt8.ofNat r.toNat]⟩ = Z.str (Lib.decDigits u) := by rw [hdec, ← Z.str_append]; rfl
      have q1 : IntKind.i64.wrap ((u : Int).tdiv 10) = d := by rw [q0, ← hd]; exact IntWalk.i64_in _ (by omega)
      have q2 : IntKind.i64.wrap (48 + (u : Int).tmod 10) = r := by rw [q0', ← hr]; exact IntWalk.i64_in _ (by omega)
      have q3 : IntKind.u8.wrap r = r := IntWalk.u8_in _ (by omega)
      obtain ⟨S, hS⟩ : ∃ S, S = Z.str (Lib.decDigits (u / 10)) := ⟨_, rfl⟩
      rw [← hS] at hs hres
      have IH' : ∀ w', Calls Tryz.prog 120 #[.int .i64 d] w' fun e w'' => e = .returned (.string S) ∧ K.Ext w' w'' := fun w' => by rw [hS]; exact IH w'
      have hov : ¬ (9223372036854775807 < S.size + 1) := by omega
      obtain ⟨U, hU⟩ : ∃ U : Int, U = (u : Int) := ⟨_, rfl⟩
      rw [← hU] at q1 q2 h10 ⊢
      clear hd hr IH q0 q0' hS hdec hU
      go_enter Tryz.func120, Tryz.ntmps120
      go_wp2_with fail
      refine K.wp_region_x 10 [0, 0, 2, 0, 0, 0, 0, 2, 2, 0] [K.SP.any, K.SP.any, K.SP.is (.string S), K.SP.any, K.SP.any, K.SP.any, K.SP.any, K.SP.sl (w.heap.size) (.cells #[.int .u8 r] 5), K.SP.is (.string ⟨#[UInt8.ofNat r.toNat]⟩)] (by kernel_rfl) (by kernel_rfl) ?_
      simp only [List.take_succ_cons, List.take_zero, List.drop_succ_cons, List.drop_zero]
      iterate 2
        apply K.x_pure
        · rfl
        · rfl
        · intro w'; go_simp; first | done | exact K.vint (IntWalk.i64_in _ (by omega)) | rfl | exact ⟨rfl, rfl⟩
        simp only [Act.put, List.setIfInBounds_toArray, List.set]
      apply K.x_call_is
      · rfl
      · rfl
      · rfl
      · intro w'; go_simp; first | done | rfl | exact ⟨rfl, rfl⟩
      · intro w' hx hp; have hc := hx.all.1.1; have hf := hx.all.1.2; have hc' := hx.all.2.1; have hf' := hx.all.2.2; exact IH' _
      intro w_2_ hx_2_
      simp only [Act.put, List.setIfInBounds_toArray, List.set]
      iterate 4
        apply K.x_pure
        · rfl
        · rfl
        · intro w'; go_simp; first | done | exact K.vint (IntWalk.i64_in _ (by omega)) | rfl | exact ⟨rfl, rfl⟩
        simp only [Act.put, List.setIfInBounds_toArray, List.set]
      apply K.x_newsl
      · rfl
      · rfl
      · rfl
      · go_simp; first | done | omega
      · intro w'; go_simp; first | done | rfl | exact ⟨rfl, rfl⟩
      intro g3_7 w_7_ hx_7_ hg3_7 hb_7_
      simp only [Act.put, List.setIfInBounds_toArray, List.set]
      apply K.x_op_is
      · rfl
      · rfl
      · rfl
      · intro w' hx hp; have hc := hx.all.1.1; have hf := hx.all.1.2; have hc' := hx.all.2.1; have hf' := hx.all.2.2; have hq_ := K.byte_str (P := Tryz.prog) (src := 22) (dst := 9) Tryz.underlying22 Tryz.underlying5 Tryz.underlying9 r0 r1 (K.SP.sl_at (hp 7 _ (by kernel_rfl) rfl rfl)); go_simp; first | done | rfl
      intro w_8_ hx_8_
      simp only [Act.put, List.setIfInBounds_toArray, List.set]
      apply K.x_pure
      · rfl
      · rfl
      · intro w'; go_simp; first | done | exact K.vint (IntWalk.i64_in _ (by omega)) | rfl | exact ⟨rfl, rfl⟩
      simp only [Act.put, List.setIfInBounds_toArray, List.set]
      apply K.x_done
      intro w2 h_x
      have hx2 := hx_2_.trans (hx_7_.trans (hx_8_.trans h_x))
      have hb3_7 := K.Ext.block (hx_8_.trans h_x) hb_7_
      have cg3_7_0 : w2.cell? ⟨g3_7, 0, none⟩ = some (.int .u8 r) := K.cell_at hb3_7 rfl
      have fg3_7_0 : w2.frozen? ⟨g3_7, 0, none⟩ = false := K.thaw_at hb3_7
      clear h_x hx_2_ hx_7_ hx_8_
      obtain ⟨⟨hcw2, hfw2⟩, hc'w2, hf'w2⟩ := hx2.all
      go_wp2_with fail
      refine NoPanic.normal ?_
      go_wp2
      go_ret
      exact ⟨by rw [← hres]; rfl, (by repeat' (first | with_reducible exact K.Ext.refl _ | with_reducible assumption | with_reducible refine K.Ext.drew ?_ | with_reducible refine K.Ext.alloc ?_ _ | with_reducible refine K.Ext.setCell ?_ ?_ _ | with_reducible refine K.Ext.trans ?_ (by with_reducible assumption) | (dsimp only; omega) | omega | exact K.Ext.refl _ | assumption | apply K.Ext.drew | refine K.Ext.alloc ?_ _ | refine K.Ext.setCell ?_ ?_ _ | (simp; done) | (simp; omega) | refine K.Ext.trans ?_ (by assumption)))⟩
set_option maxRecDepth 100000 in
theorem l01Number_any (n : Int) (w : World) (h0 : -1000000000000000000 < n) (h1 : n < 1000000000000000000) :
    Calls Tryz.prog 88 #[.int .i64 n] w fun e w' => e = .returned (.string (Z.dec n)) ∧ K.Ext w w' := by
  rcases Z.int_cases n with ⟨u, rfl⟩ | ⟨u, hu, rfl⟩
  · have hn : ¬ (u : Int) < 0 := by omega
    have he : Z.dec (u : Int) = Z.str (Lib.decDigits u) := by unfold Z.dec; rw [Z.itoa_nat]
    have IH := l01Dec_any u
    rw [← he] at IH
    obtain ⟨S, hS⟩ : ∃ S, S = Z.dec (u : Int) := ⟨_, rfl⟩
    rw [← hS] at IH ⊢
    obtain ⟨U, hU⟩ : ∃ U : Int, U = (u : Int) := ⟨_, rfl⟩
    rw [← hU] at IH hn ⊢
    have hb : u < 1000000000000000000 := by omega
    clear he hS hU
    go_enter Tryz.func88, Tryz.ntmps88
    go_wp2_with fail
    refine K.call (by with_reducible rfl) (by with_reducible rfl) (IH _ hb) ?_
    rintro e w1 ⟨rfl, f1⟩
    go_wp2
    go_ret
    exact ⟨rfl, f1⟩
  · have hn : -(u : Int) < 0 := by omega
    have he : Z.dec (-(u : Int)) = ⟨#[45]⟩ ++ Z.str (Lib.decDigits u) := by
      unfold Z.dec; rw [Z.itoa_neg hu]
      exact (Z.str_append [45] _).symm
    have IH := l01Dec_any u
    have hsz : (Z.str (Lib.decDigits u)).size ≤ 18 := by rw [Z.str_size]; exact Z.decDigits_le (k := 17) (by omega)
    obtain ⟨S, hS⟩ : ∃ S, S = Z.str (Lib.decDigits u) := ⟨_, rfl⟩
    rw [← hS] at IH hsz he
    rw [he]
    obtain ⟨U, hU⟩ : ∃ U : Int, U = -(u : Int) := ⟨_, rfl⟩
    obtain ⟨V, hV⟩ : ∃ V : Int, V = (u : Int) := ⟨_, rfl⟩
    rw [← hV] at IH
    rw [← hU] at hn ⊢
    have q1 : IntKind.i64.wrap (-U) = V := by rw [hU, hV, Int.neg_neg]; exact IntWalk.i64_in _ (by omega)
    have hov : ¬ (9223372036854775807 < 1 + S.size) := by omega
    have hb : u < 1000000000000000000 := by omega
    clear he hS hU hV
    go_enter Tryz.func88, Tryz.ntmps88
    go_wp2_with fail
    refine K.call (by with_reducible rfl) (by with_reducible rfl) (IH _ hb) ?_
    rintro e w1 ⟨rfl, f1⟩
    go_wp2
    go_ret
    exact ⟨rfl, f1⟩
end Go.Proofs.YtmgocfdhngeeiaaGreatDoor
end
section
namespace Go.Z
/-- the text of a figure -/
def figText (d t : Int) : ByteArray := ((((dec d).extract 0 1 ++ ⟨#[46]⟩) ++ (dec d).extract 1 4) ++ ⟨#[101]⟩) ++ dec t
theorem dec4 {d : Int} (h : 1000 ≤ d) (h' : d ≤ 9999) : (dec d).size = 4 := by
  obtain ⟨u, rfl⟩ : ∃ u : Nat, d = u := ⟨d.toNat, by omega⟩
  unfold dec; rw [itoa_nat, str_size, Lib.decDigits_length, Lib.nDigits_unique 3 u (by omega) (by omega)]
/-- the text of one letter with its exponent -/
def partText (nm : ByteArray) (x : Int) (i : Nat) : ByteArray := if x == 1 then ⟨#[42]⟩ ++ nm.extract i (i + 1) else (⟨#[42]⟩ ++ nm.extract i (i + 1)) ++ (⟨#[94]⟩ ++ dec x)
def fmTextK (F : Fm) : Nat → ByteArray
  | 0 => figText F.dg F.tn
  | k + 1 => fmTextK F k ++ partText F.nm (F.pw.getD k 0) k
def fmText (F : Fm) : ByteArray := fmTextK F F.nm.size
end Go.Z
namespace Go.Proofs.YtmgocfdhngeeiaaGreatDoor
open Go.RowKit
end Go.Proofs.YtmgocfdhngeeiaaGreatDoor
end
section
namespace Go.Z
def FormulaText (F : Fm) : ByteArray × Int := if isFormula F then (fmText F, 0) else (⟨#[]⟩, 1)
end Go.Z
namespace Go.Proofs.YtmgocfdhngeeiaaGreatDoor
open Go.RowKit
end Go.Proofs.YtmgocfdhngeeiaaGreatDoor
end
section
namespace Go.Z
/-- the program's reading of a number -/
def number (s : ByteArray) : Int × Bool :=
  match Lib.parseIntB 64 s.data.toList with
  | .ok v => if dec v = s then (v, true) else (0, false)
  | _ => (0, false)
theorem number_dec {n : Int} (h : -9223372036854775808 ≤ n) (h' : n ≤ 9223372036854775807) : number (dec n) = (n, true) := by
  unfold number
  rw [show (dec n).data.toList = Lib.itoa n by unfold dec; rw [str_bytes], parse_itoa h h']
  simp
theorem digit_yes {b : UInt8} (h : 48 ≤ b.toNat) (h' : b.toNat ≤ 57) : Lib.digitVal b = some (b.toNat - 48) := by unfold Lib.digitVal; rw [if_pos ⟨h, h'⟩]
theorem digit_no {b : UInt8} (h : b.toNat < 48 ∨ 57 < b.toNat) : Lib.digitVal b = none := by unfold Lib.digitVal; rw [if_neg (by omega)]
theorem value_bad {l : List UInt8} {k : Nat} {b : UInt8} (hk : l[k]? = some b) (hb : Lib.digitVal b = none) : value l = (0, false) := by
  unfold value
  split
  · cases hd : Lib.decFrom 0 l with
    | none => rfl
    | some u =>
      obtain ⟨d, hd'⟩ := Lib.digit_of_decFrom l 0 u hd k b hk
      rw [hb] at hd'; cases hd'
  · rfl
theorem value_good {l : List UInt8} {u : Nat} (h1 : 1 ≤ l.length) (h2 : l.length ≤ 13) (hd : Lib.decFrom 0 l = some u) : value l = ((u : Int), decide (str (Lib.decDigits u) = str l)) := by
  unfold value
  rw [if_pos ⟨h1, h2⟩, hd]
  simp only
  congr 1
  rw [decide_eq_decide]
  exact ⟨fun h => by rw [h], str_inj⟩
theorem value_len {l : List UInt8} (h : l.length < 1 ∨ 13 < l.length) : value l = (0, false) := by unfold value; rw [if_neg (by omega)]
theorem dec_step {l : List UInt8} {k u : Nat} {b : UInt8} (h : Lib.decFrom 0 (l.take k) = some u) (hk : l[k]? = some b) (h0 : 48 ≤ b.toNat) (h1 : b.toNat ≤ 57) (hl : l.length ≤ 13) :
    Lib.decFrom 0 (l.take (k + 1)) = some (u * 10 + (b.toNat - 48)) ∧ u * 10 + (b.toNat - 48) < 10000000000000 := by
  have := Lib.decFrom_take l k 0 u b _ h hk (digit_yes h0 h1)
  refine ⟨this, ?_⟩
  have hb := Lib.decFrom_lt _ 0 _ this
  have h13 : 10 ^ (l.take (k + 1)).length ≤ 10 ^ 13 := Nat.pow_le_pow_right (by decide) (by simp; omega)
  omega
theorem signed_minus {s : ByteArray} (h : 0 < s.size) (hb : (s[0]'h).toNat = 45) : signed s.data.toList = (-(value (s.extract 1 s.size).data.toList).1, (value (s.extract 1 s.size).data.toList).2 && decide (0 < (value (s.extract 1 s.size).data.toList).1)) := by
  have hl := bytes_length s
  have hg : s.data.toList[0]? = some (s[0]'h) := by rw [Array.getElem?_toList, Array.getElem?_eq_getElem (show 0 < s.data.size from h)]; rfl
  have e45 : s[0]'h = 45 := UInt8.toNat_inj.1 hb
  unfold signed
  have ht : (s.extract 1 s.size).data.toList = s.data.toList.tail := by
    rw [ByteArray.data_extract]
    simp only [Array.toList_extract, List.extract, List.drop_one]
    exact List.take_of_length_le (by rw [List.length_tail, hl]; exact Nat.le_refl _)
  rw [if_pos (by rw [List.head?_eq_getElem?, hg, e45]), ht]
theorem signed_plain {s : ByteArray} (h : ∀ h : 0 < s.size, (s[0]'h).toNat ≠ 45) : signed s.data.toList = value s.data.toList := by
  unfold signed
  rw [if_neg]
  intro e
  rw [List.head?_eq_getElem?] at e
  have h0 : 0 < s.size := by
    rw [← bytes_length s]
    exact List.length_pos_iff.2 (fun x => by rw [x] at e; cases e)
  have hg : s.data.toList[0]? = some (s[0]'h0) := by rw [Array.getElem?_toList, Array.getElem?_eq_getElem (show 0 < s.data.size from h0)]; rfl
  rw [hg] at e
  exact h h0 (by rw [Option.some.inj e]; rfl)
/-- what both readings of a number say -/
structure Num (l : List UInt8) (n : Int) (ok : Bool) : Prop where
  lo : -9223372036854775808 ≤ n
  hi : n ≤ 9223372036854775807
  sound : ok = true → Lib.itoa n = l
  whole : ∀ m : Int, -1000000 ≤ m → m ≤ 1000000 → Lib.itoa m = l → n = m ∧ ok = true
end Go.Z
namespace Go.K
theorem ext_bytes {w w' : World} {t : TypeId} (h : w' = w ∨ ∃ l, w' = Lib.bytesWorld w t l) : Ext w w' := by
  rcases h with rfl | ⟨l, rfl⟩
  · exact Ext.refl _
  · exact Joins.below_bytesWorld _ _ _ _ (Nat.le_refl _)
end Go.K
namespace Go.Proofs.YtmgocfdhngeeiaaGreatDoor
open Go.RowKit
set_option maxRecDepth 100000 in
set_option maxHeartbeats 3200000 in
theorem number_any (s : ByteArray) (w : World) (hs : s.size ≤ 1048576) (hL : LV w) :
    Calls Tryz.prog 45 #[.string s] w fun e w' => e = .returned (.tuple #[.int .i64 (Z.number s).1, .bool (Z.number s).2]) ∧ K.Ext w w' := by
  cases hP : Lib.parseIntB 64 s.data.toList with
  | ok v =>
    have hb := Lib.parseIntB_bounds hP
    have HC := Tryz.strconv_ParseInt_10_at64_ok s (by omega) v hP w
    have HN : Hid (Z.number s = if Z.dec v = s then (v, true) else (0, false)) := Z.hide (by unfold Z.number; rw [hP])
    have HD : ∀ w', LTab w' → Calls Tryz.prog 87 #[.int .i64 v] w' fun e w'' => e = .returned (.string (Z.dec v)) ∧ K.Ext w' w'' := fun w' h => decimal_any v w' (by simp at hb; omega) (by simp at hb; omega) h
    obtain ⟨D, hD⟩ : ∃ D, D = Z.dec v := ⟨_, rfl⟩
    rw [← hD] at HD HN
    clear hD hP hb
    by_cases hq : D = s
    all_goals
      have hb := K.str_beq D s
      simp only [hq, decide_true, decide_false] at hb
      go_enter Tryz.func45, Tryz.ntmps45
      go_wp2_with fail
      refine K.call (by with_reducible rfl) (by with_reducible rfl) HC ?_
      rintro e w1 ⟨rfl, f0⟩
      have f1 := K.ext_bytes f0
      clear f0
      go_wp2_with fail
      refine K.call (by with_reducible rfl) (by with_reducible rfl) (HD _ (hL.t.ext f1)) ?_
      rintro e w2 ⟨rfl, f2⟩
      go_wp2
      go_ret2
      exact ⟨by rw [HN.out]; simp [hq], f1.trans f2⟩
  | range =>
    obtain ⟨ev, hv, hev⟩ := hL.rng
    have HC := Tryz.strconv_ParseInt_10_at64_range s (by omega) hP ev w hv hev
    have HN : Hid (Z.number s = (0, false)) := Z.hide (by unfold Z.number; rw [hP])
    go_enter Tryz.func45, Tryz.ntmps45
    go_wp2_with fail
    refine K.call (by with_reducible rfl) (by with_reducible rfl) HC ?_
    rintro e w1 ⟨N, rfl, _, _, f1⟩
    go_wp2
    go_ret2
    exact ⟨by rw [HN.out]; rfl, f1⟩
  | _ =>
    obtain ⟨ev, hv, hev⟩ := hL.syn
    have HC := Tryz.strconv_ParseInt_10_at64_syntax s (by omega) hP ev w hv hev
    have HN : Hid (Z.number s = (0, false)) := Z.hide (by unfold Z.number; rw [hP])
    go_enter Tryz.func45, Tryz.ntmps45
    go_wp2_with fail
    refine K.call (by with_reducible rfl) (by with_reducible rfl) HC ?_
    rintro e w1 ⟨N, rfl, _, _, f1⟩
    go_wp2
    go_ret2
    exact ⟨by rw [HN.out]; rfl, f1⟩
set_option maxRecDepth 100000 in
set_option maxHeartbeats 3200000 in
theorem l01Value_any (s : ByteArray) (w : World) :
    Calls Tryz.prog 92 #[.string s] w fun e w' => e = .returned (.tuple #[.int .i64 (Z.value s.data.toList).1, .bool (Z.value s.data.toList).2]) ∧ K.Ext w w' := by
  have hsz := Z.bytes_length s
  rcases Nat.lt_or_ge s.size 1 with h1 | h1
  · have HV := Z.hide (Z.value_len (l := s.data.toList) (by omega))
    have t1 : (s.size : Int) < 1 := by omega
    clear hsz
    go_enter Tryz.func92, Tryz.ntmps92
    go_wp2
    go_ret2
    exact ⟨by rw [HV.out]; rfl, K.Ext.refl _⟩
  · rcases Nat.lt_or_ge 13 s.size with h2 | h2
    · have HV := Z.hide (Z.value_len (l := s.data.toList) (by omega))
      have t1 : ¬ ((s.size : Int) < 1) := by omega
      have t2 : (13 : Int) < (s.size : Int) := by omega
      clear hsz
      go_enter Tryz.func92, Tryz.ntmps92
      go_wp2
      go_ret2
      exact ⟨by rw [HV.out]; rfl, K.Ext.refl _⟩
    · have t1 : ¬ ((s.size : Int) < 1) := by omega
      have t2 : ¬ ((13 : Int) < (s.size : Int)) := by omega
      have HS := Z.hide hsz
      clear hsz
      go_enter Tryz.func92, Tryz.ntmps92
      go_wp2
      go_loopw [4, 5] (fun n i wr => ∃ (k : Nat) (U : Int), k ≤ s.size ∧ n = .int .i64 U ∧ i = .int .i64 k ∧ 0 ≤ U ∧ U < 10000000000000 ∧ Hid (Lib.decFrom 0 (s.data.toList.take k) = some U.toNat) ∧ Hid (K.Ext w wr)) (fun _ i _ => s.size - (intOf i).toNat)
      case atStart => exact ⟨0, 0, Nat.zero_le _, rfl, rfl, Int.le_refl _, by decide, Z.hide rfl, Z.hide (K.Ext.refl _)⟩
      case round =>
        obtain ⟨k, U, hk, rfl, rfl, u0, u1, HD, HX⟩ := hrel
        by_cases hlt : k < s.size
        · have hg : s.data.toList[k]? = some (s[k]'hlt) := by rw [Array.getElem?_toList, Array.getElem?_eq_getElem (show k < s.data.size from hlt)]; rfl
          have HG := Z.hide hg
          clear hg
          have i0 : (0 : Int) ≤ (k : Int) := Int.natCast_nonneg k
          have i2 : (k : Int) < (s.size : Int) := by omega
          have hB := (s[k]'hlt).toNat_lt
          have b0 : (0 : Int) ≤ ((s[k]'hlt).toNat : Int) := Int.natCast_nonneg _
          have b1 : ((s[k]'hlt).toNat : Int) ≤ 255 := by omega
          cases a1 : decide (((s[k]'hlt).toNat : Int) < 48)
          · cases a2 : decide ((57 : Int) < ((s[k]'hlt).toNat : Int))
            · have c0 := of_decide_eq_false a1
              have c1 := of_decide_eq_false a2
              have HN := Z.hide (Z.dec_step HD.out HG.out (by omega) (by omega) (by rw [HS.out]; exact h2))
              have n1 : U.toNat * 10 + ((s[k]'hlt).toNat - 48) < 10000000000000 := HN.out.2
              have q1 : IntKind.i64.wrap (10 * U) = 10 * U := IntWalk.i64_in _ (by omega)
              have q2 : IntKind.u8.wrap (((s[k]'hlt).toNat : Int) - 48) = ((s[k]'hlt).toNat : Int) - 48 := IntWalk.u8_in _ (by omega)
              have q2' : IntKind.i64.wrap (((s[k]'hlt).toNat : Int) - 48) = ((s[k]'hlt).toNat : Int) - 48 := IntWalk.i64_in _ (by omega)
              have q3 : IntKind.i64.wrap (10 * U + (((s[k]'hlt).toNat : Int) - 48)) = 10 * U + (((s[k]'hlt).toNat : Int) - 48) := IntWalk.i64_in _ (by omega)
              have qk : IntKind.i64.wrap ((k : Int) + 1) = (k : Int) + 1 := IntWalk.i64_in _ (by omega)
              have hV : (10 * U + (((s[k]'hlt).toNat : Int) - 48)).toNat = U.toNat * 10 + ((s[k]'hlt).toNat - 48) := by omega
              have HV := Z.hide hV
              have v0 : 0 ≤ 10 * U + (((s[k]'hlt).toNat : Int) - 48) := by omega
              have v1 : 10 * U + (((s[k]'hlt).toNat : Int) - 48) < 10000000000000 := by omega
              clear hV n1
              go_wp2
              go_roundw
              case rel => exact ⟨k + 1, _, by omega, rfl, by go_num, v0, v1, Z.hide (by rw [HV.out]; exact HN.out.1), HX⟩
              case measure => simp [intOf]; omega
            · have HV := Z.hide (Z.value_bad HG.out (Z.digit_no (.inr (by have := of_decide_eq_true a2; omega))))
              go_wp2
              go_ret2
              exact ⟨by rw [HV.out]; rfl, HX.out⟩
          · have HV := Z.hide (Z.value_bad HG.out (Z.digit_no (.inl (by have := of_decide_eq_true a1; omega))))
            go_wp2
            go_ret2
            exact ⟨by rw [HV.out]; rfl, HX.out⟩
        · obtain rfl : k = s.size := by omega
          have hd := HD.out
          rw [List.take_of_length_le (by rw [HS.out]; exact Nat.le_refl _)] at hd
          have HV := Z.hide (Z.value_good (by rw [HS.out]; exact h1) (by rw [HS.out]; exact h2) hd)
          have HC := l01Dec_any U.toNat
          have e : ((U.toNat : Nat) : Int) = U := by omega
          rw [e] at HC HV
          have hu : U.toNat < 1000000000000000000 := by omega
          rw [Z.str_list] at HV
          generalize Z.str (Lib.decDigits U.toNat) = D at *
          have hb := K.str_beq D s
          clear hd HD e u0 u1
          by_cases hq : D = s
          all_goals
            simp only [hq, decide_true, decide_false] at hb
            go_wp2_with fail
            refine K.call (by with_reducible rfl) (by with_reducible rfl) (HC _ hu) ?_
            rintro e w2 ⟨rfl, f2⟩
            go_wp2
            go_ret2
            exact ⟨by rw [HV.out]; simp [hq], HX.out.trans f2⟩
set_option maxRecDepth 100000 in
set_option maxHeartbeats 3200000 in
theorem l01Signed_any (s : ByteArray) (w : World) :
    Calls Tryz.prog 48 #[.string s] w fun e w' => e = .returned (.tuple #[.int .i64 (Z.signed s.data.toList).1, .bool (Z.signed s.data.toList).2]) ∧ K.Ext w w' := by
  rcases Nat.eq_zero_or_pos s.size with h0 | h0
  · have HV := Z.hide (Z.signed_plain (s := s) (fun h => absurd h (by omega)))
    have t1 : ¬ ((0 : Int) < (s.size : Int)) := by omega
    clear h0
    go_enter Tryz.func48, Tryz.ntmps48
    go_wp2_with fail
    refine K.call (by with_reducible rfl) (by with_reducible rfl) (l01Value_any s _) ?_
    rintro e w2 ⟨rfl, f2⟩
    go_wp2
    go_ret2
    exact ⟨by rw [HV.out]; rfl, f2⟩
  · have t1 : (0 : Int) < (s.size : Int) := by omega
    by_cases hb : (s[0]'h0).toNat = 45
    · have HV := Z.hide (Z.signed_minus h0 hb)
      have HC := l01Value_any (s.extract 1 s.size)
      have HB := Z.hide (Z.value_bound (s.extract 1 s.size).data.toList)
      have t2 : (((s[0]'h0).toNat : Int) == 45) = true := by rw [hb]; rfl
      have t3 : ((s[0]'h0).toNat : Int) = 45 := by omega
      obtain ⟨T, hT⟩ : ∃ T, T = s.extract 1 s.size := ⟨_, rfl⟩
      have i1 : (1 : Int) ≤ (s.size : Int) := by omega
      generalize Z.value (s.extract 1 s.size).data.toList = v at *
      obtain ⟨x, o⟩ := v
      simp only at HV HC HB
      have q1 : IntKind.i64.wrap (-x) = -x := IntWalk.i64_in _ (by have := HB.out; omega)
      clear hT
      cases o
      all_goals
        go_enter Tryz.func48, Tryz.ntmps48
        go_wp2_with fail
        refine K.call (by with_reducible rfl) (by with_reducible rfl) (HC _) ?_
        rintro e w2 ⟨rfl, f2⟩
        go_wp2
        go_ret2
        exact ⟨by rw [HV.out]; rfl, f2⟩
    · have HV := Z.hide (Z.signed_plain (s := s) (fun h => hb))
      have t2 : (((s[0]'h0).toNat : Int) == 45) = false := by simp; omega
      have t3 : ¬ (((s[0]'h0).toNat : Int) = 45) := by omega
      go_enter Tryz.func48, Tryz.ntmps48
      go_wp2_with fail
      refine K.call (by with_reducible rfl) (by with_reducible rfl) (l01Value_any s _) ?_
      rintro e w2 ⟨rfl, f2⟩
      go_wp2
      go_ret2
      exact ⟨by rw [HV.out]; rfl, f2⟩
end Go.Proofs.YtmgocfdhngeeiaaGreatDoor
end
section
namespace Go.Z
theorem itoa_no {b : UInt8} (n : Int) (h1 : b ≠ 45) (h2 : b.toNat < 48 ∨ 57 < b.toNat) : b ∉ Lib.itoa n := fun hm => by
  rcases itoa_byte n b hm with h | h
  · exact h1 h
  · omega
theorem itoa_ne (n : Int) : Lib.itoa n ≠ [] := by
  rcases int_cases n with ⟨u, rfl⟩ | ⟨u, hu, rfl⟩
  · rw [itoa_nat]; exact decDigits_ne u
  · rw [itoa_neg hu]; simp
theorem len4 {l : List UInt8} (h : l.length = 4) : ∃ a b c d, l = [a, b, c, d] := by
  match l, h with
  | [a, b, c, d], _ => exact ⟨a, b, c, d, rfl⟩
theorem fig_bytes {d : Int} (t : Int) (h : 1000 ≤ d) (h' : d ≤ 9999) : ∃ c0 c1 c2 c3 : UInt8, Lib.itoa d = [c0, c1, c2, c3] ∧ figText d t = str ([c0, 46, c1, c2, c3, 101] ++ Lib.itoa t) := by
  have h4 := dec4 h h'
  unfold dec at h4
  rw [str_size] at h4
  obtain ⟨c0, c1, c2, c3, he⟩ := len4 h4
  refine ⟨c0, c1, c2, c3, he, ?_⟩
  have e1 : (str [c0, c1, c2, c3]).extract 0 1 = str [c0] := by unfold str; rw [ByteArray.extract_mk]; rfl
  have e2 : (str [c0, c1, c2, c3]).extract 1 4 = str [c1, c2, c3] := by unfold str; rw [ByteArray.extract_mk]; rfl
  unfold figText dec
  rw [he, e1, e2]
  show (((str [c0] ++ str [46]) ++ str [c1, c2, c3]) ++ str [101]) ++ str (Lib.itoa t) = _
  rw [str_append, str_append, str_append, str_append]
  rfl
theorem replace_one {c : UInt8} {a t : List UInt8} (h : c ∉ a) : Lib.replace (a ++ c :: t) [c] [] 1 = a ++ t := by
  have hc : 1 ≤ Lib.count (a ++ c :: t) [c] := by
    unfold Lib.count Lib.countFrom
    have h1 : (((a.length : Nat) : Int) == -1) = false := by rw [beq_eq_false_iff_ne]; omega
    rw [index_hit t h, h1]
    simp
  unfold Lib.replace
  rw [if_neg (by simp)]
  unfold Lib.replaceNum
  rw [if_neg (by omega), show (1 : Int).toNat = 0 + 1 from rfl, Lib.replaceK_hit _ _ _ _ a.length (index_hit t h)]
  simp [Lib.replaceK]
/-- the program's reading of a figure -/
def readFig (s : ByteArray) : (Int × Int) × Bool :=
  if (Lib.cut s.data.toList [101]).2.2 && (number (str (Lib.replace (Lib.cut s.data.toList [101]).1 [46] [] 1))).2 && (number (str (Lib.cut s.data.toList [101]).2.1)).2 &&
      isFig (number (str (Lib.replace (Lib.cut s.data.toList [101]).1 [46] [] 1))).1 (number (str (Lib.cut s.data.toList [101]).2.1)).1 &&
      decide (figText (number (str (Lib.replace (Lib.cut s.data.toList [101]).1 [46] [] 1))).1 (number (str (Lib.cut s.data.toList [101]).2.1)).1 = s)
  then (((number (str (Lib.replace (Lib.cut s.data.toList [101]).1 [46] [] 1))).1, (number (str (Lib.cut s.data.toList [101]).2.1)).1), true) else ((0, 0), false)
/-- what both readings of a figure say -/
structure FigR (s : ByteArray) (d t : Int) (ok : Bool) : Prop where
  sound : ok = true → isFig d t = true ∧ figText d t = s
  zero : ok = false → d = 0 ∧ t = 0
  whole : ∀ d' t' : Int, isFig d' t' = true → figText d' t' = s → d = d' ∧ t = t' ∧ ok = true
theorem isFig_parts {d t : Int} (h : isFig d t = true) : (1000 ≤ d ∧ d ≤ 9999) ∧ -30 ≤ t ∧ t ≤ 30 := by
  simpa [isFig] using h
theorem readFig_whole {d t : Int} (h : isFig d t = true) : readFig (figText d t) = ((d, t), true) := by
  obtain ⟨⟨h1, h2⟩, h3, h4⟩ := isFig_parts h
  obtain ⟨c0, c1, c2, c3, he, hf⟩ := fig_bytes t h1 h2
  have n101 := itoa_no (b := 101) d (by decide) (by decide)
  have n46 := itoa_no (b := 46) d (by decide) (by decide)
  rw [he] at n101 n46
  simp only [List.mem_cons, List.not_mem_nil, or_false, not_or] at n101 n46
  have hc : Lib.cut (figText d t).data.toList [101] = ([c0, 46, c1, c2, c3], Lib.itoa t, true) := by
    rw [hf, str_bytes]
    exact cut_hit (a := [c0, 46, c1, c2, c3]) (by simp only [List.mem_cons, List.not_mem_nil, or_false, not_or]; exact ⟨n101.1, by decide, n101.2⟩)
  have hr : Lib.replace [c0, 46, c1, c2, c3] [46] [] 1 = [c0, c1, c2, c3] := replace_one (c := 46) (a := [c0]) (t := [c1, c2, c3]) (by simp only [List.mem_cons, List.not_mem_nil, or_false]; exact n46.1)
  have hn : number (str [c0, c1, c2, c3]) = (d, true) := by rw [← he]; exact number_dec (by omega) (by omega)
  have ht : number (str (Lib.itoa t)) = (t, true) := number_dec (by omega) (by omega)
  unfold readFig
  rw [hc]
  simp only [hr, hn, ht, h]
  simp
def partB (nm : ByteArray) (x : Int) (i : Nat) : List UInt8 := (nm.extract i (i + 1)).data.toList ++ (if x == 1 then [] else 94 :: Lib.itoa x)
theorem partText_bytes (nm : ByteArray) (x : Int) (i : Nat) : (partText nm x i).data.toList = 42 :: partB nm x i := by
  unfold partText partB
  split
  · rw [append_bytes]; simp
  · rw [append_bytes, append_bytes, append_bytes]
    have : (dec x).data.toList = Lib.itoa x := by unfold dec; rw [str_bytes]
    rw [this]; simp
theorem joinB_snoc (c : UInt8) (p : List UInt8) : ∀ {ps : List (List UInt8)}, ps ≠ [] → joinB c (ps ++ [p]) = joinB c ps ++ c :: p
  | [], h => absurd rfl h
  | [q], _ => by simp [joinB]
  | q :: r :: t, _ => by
    have := joinB_snoc c p (ps := r :: t) (by simp)
    simp only [List.cons_append, joinB, List.append_assoc] at this ⊢
    rw [this]
def pieces (F : Fm) (k : Nat) : List (List UInt8) := (figText F.dg F.tn).data.toList :: (List.range k).map fun i => partB F.nm (F.pw.getD i 0) i
theorem fmTextK_bytes (F : Fm) : ∀ k, (fmTextK F k).data.toList = joinB 42 (pieces F k)
  | 0 => rfl
  | k + 1 => by
    have ih := fmTextK_bytes F k
    unfold fmTextK
    rw [append_bytes, ih, partText_bytes]
    unfold pieces
    rw [List.range_succ, List.map_append, List.map_singleton, ← List.cons_append, joinB_snoc _ _ (by simp)]
theorem name_byte {nm : ByteArray} {i : Nat} (h : i < nm.size) : (nm.extract i (i + 1)).data.toList = [nm[i]'h] := by
  rw [ByteArray.data_extract, Array.toList_extract]
  have hl : i < nm.data.toList.length := by rw [bytes_length]; exact h
  simp only [List.extract]
  rw [List.drop_eq_getElem_cons hl, show i + 1 - i = 1 by omega, List.take_succ_cons, List.take_zero, Array.getElem_toList]
  rfl
theorem valid_name {F : Fm} (h : isFormula F = true) {i : Nat} (hi : i < F.nm.size) : 97 ≤ (F.nm[i]'hi).toNat ∧ (F.nm[i]'hi).toNat ≤ 122 := by
  have := valid_at h i hi
  simp only [okAt, Bool.and_eq_true, Bool.not_eq_true', decide_eq_false_iff_not] at this
  have e := bs_get F.nm i hi
  omega
theorem valid_pw {F : Fm} (h : isFormula F = true) {i : Nat} (hi : i < F.nm.size) : -6 ≤ F.pw.getD i 0 ∧ F.pw.getD i 0 ≤ 6 := by
  have := valid_at h i hi
  simp only [okAt, Bool.and_eq_true, decide_eq_true_eq] at this
  omega
theorem fig_no42 {d : Int} (t : Int) (h : 1000 ≤ d) (h' : d ≤ 9999) : (42 : UInt8) ∉ (figText d t).data.toList := by
  obtain ⟨c0, c1, c2, c3, he, hf⟩ := fig_bytes t h h'
  have n := itoa_no (b := 42) d (by decide) (by decide)
  have m := itoa_no (b := 42) t (by decide) (by decide)
  rw [he] at n
  rw [hf, str_bytes]
  simp only [List.mem_cons, List.not_mem_nil, or_false, not_or] at n
  simp only [List.mem_append, List.mem_cons, List.not_mem_nil, or_false, not_or]
  exact ⟨⟨n.1, by decide, n.2.1, n.2.2.1, n.2.2.2, by decide⟩, m⟩
theorem part_no42 {F : Fm} (h : isFormula F = true) {i : Nat} (hi : i < F.nm.size) : (42 : UInt8) ∉ partB F.nm (F.pw.getD i 0) i := by
  have hn := valid_name h hi
  unfold partB
  rw [name_byte hi]
  intro hm
  rcases List.mem_append.1 hm with h1 | h1
  · have : (42 : UInt8) = F.nm[i]'hi := by simpa using h1
    rw [← this] at hn
    simp at hn
  · split at h1
    · cases h1
    · rcases List.mem_cons.1 h1 with h2 | h2
      · simp at h2
      · exact itoa_no _ (by decide) (by decide) h2
theorem fm_split {F : Fm} (h : isFormula F = true) : splitC 42 (fmText F).data.toList = pieces F F.nm.size := by
  unfold fmText
  rw [fmTextK_bytes]
  refine splitC_join (by simp [pieces]) fun p hp => ?_
  unfold pieces at hp
  rcases List.mem_cons.1 hp with rfl | hp
  · obtain ⟨⟨h1, h2⟩, _⟩ := isFig_parts (show isFig F.dg F.tn = true by simp only [isFormula, Bool.and_eq_true] at h; exact h.1.1.1)
    exact fig_no42 _ h1 h2
  · obtain ⟨i, hi, rfl⟩ := List.mem_map.1 hp
    exact part_no42 h (List.mem_range.1 hi)
/-- the program's reading of a letter with its exponent -/
def rdPart (p : List UInt8) : List UInt8 × Int × Bool :=
  if (Lib.cut p [94]).2.2 then ((Lib.cut p [94]).1, (number (str (Lib.cut p [94]).2.1)).1, (number (str (Lib.cut p [94]).2.1)).2) else ((Lib.cut p [94]).1, 1, true)
theorem rdPart_part {F : Fm} (h : isFormula F = true) {i : Nat} (hi : i < F.nm.size) : rdPart (partB F.nm (F.pw.getD i 0) i) = ([F.nm[i]'hi], F.pw.getD i 0, true) := by
  have hn := valid_name h hi
  have hp := valid_pw h hi
  have hne : (94 : UInt8) ∉ [F.nm[i]'hi] := by
    intro hm
    have : (94 : UInt8) = F.nm[i]'hi := by simpa using hm
    rw [← this] at hn; simp at hn
  unfold partB
  rw [name_byte hi]
  split
  · rename_i hx
    unfold rdPart
    rw [List.append_nil, cut_miss hne, beq_iff_eq.1 hx]
    rfl
  · unfold rdPart
    rw [cut_hit hne]
    simp only [if_true]
    rw [show number (str (Lib.itoa (F.pw.getD i 0))) = (F.pw.getD i 0, true) from number_dec (by omega) (by omega)]
/-- the reference's reading of a letter with its exponent -/
def rdPartS (p : List UInt8) : List UInt8 × Int := ((splitC 94 p).headD [], if (splitC 94 p).length = 2 then (signed ((splitC 94 p).getD 1 [])).1 else 1)
theorem rdPartS_part {F : Fm} (h : isFormula F = true) {i : Nat} (hi : i < F.nm.size) : rdPartS (partB F.nm (F.pw.getD i 0) i) = ([F.nm[i]'hi], F.pw.getD i 0) := by
  have hn := valid_name h hi
  have hp := valid_pw h hi
  have hne : (94 : UInt8) ∉ [F.nm[i]'hi] := by
    intro hm
    have : (94 : UInt8) = F.nm[i]'hi := by simpa using hm
    rw [← this] at hn; simp at hn
  unfold partB
  rw [name_byte hi]
  split
  · rename_i hx
    unfold rdPartS
    rw [List.append_nil, splitC_piece hne, beq_iff_eq.1 hx]
    rfl
  · unfold rdPartS
    rw [splitC_cut _ hne, splitC_piece (itoa_no _ (by decide) (by decide))]
    simp only [List.headD_cons, List.length_cons, List.length_nil, List.getD_cons_succ, List.getD_cons_zero]
    simp only [if_true]
    rw [signed_itoa (by omega) (by omega)]
/-- what both readings of a formula say -/
structure FmR (s : ByteArray) (F : Fm) (ok : Bool) : Prop where
  sound : ok = true → isFormula F = true ∧ fmText F = s
  zero : ok = false → F = zeroFm
  whole : ∀ G, isFormula G = true → fmText G = s → F = G ∧ ok = true
theorem FmR.same {s : ByteArray} {F G : Fm} {a b : Bool} (h : FmR s F a) (k : FmR s G b) : F = G ∧ a = b := by
  cases a <;> cases b
  · exact ⟨by rw [h.zero rfl, k.zero rfl], rfl⟩
  · obtain ⟨k1, k2⟩ := k.sound rfl
    have := (h.whole G k1 k2).2
    cases this
  · obtain ⟨k1, k2⟩ := h.sound rfl
    have := (k.whole F k1 k2).2
    cases this
  · obtain ⟨k1, k2⟩ := k.sound rfl
    exact ⟨(h.whole G k1 k2).1, rfl⟩
theorem FmR.good {s : ByteArray} {F : Fm} (h1 : isFormula F = true) (h2 : fmText F = s) (h : ∀ G, isFormula G = true → fmText G = s → F = G) : FmR s F true :=
  ⟨fun _ => ⟨h1, h2⟩, fun h => (by cases h), fun G a b => ⟨h G a b, rfl⟩⟩
theorem FmR.bad {s : ByteArray} (h : ∀ G, isFormula G = true → fmText G ≠ s) : FmR s zeroFm false :=
  ⟨fun h => (by cases h), fun _ => rfl, fun G a b => absurd b (h G a)⟩
end Go.Z
end
section
namespace Go.Z
theorem splitC_mem_len (c : UInt8) : ∀ (l : List UInt8), ∀ p ∈ splitC c l, p.length ≤ l.length
  | [], p, h => by simp [splitC] at h; subst h; simp
  | b :: l, p, h => by
    have ih := splitC_mem_len c l
    unfold splitC at h
    split at h
    · rcases List.mem_cons.1 h with rfl | h
      · simp
      · have := ih p h; simp; omega
    · split at h
      · obtain rfl := List.mem_singleton.1 h; simp
      · rename_i q r hq
        rw [hq] at ih
        rcases List.mem_cons.1 h with rfl | h
        · have := ih q (by simp); simp; omega
        · have := ih p (by simp [h]); simp; omega
/-- what is known of the letters and exponents read so far -/
def RdI (s : ByteArray) (d t : Int) (m k : Nat) (N : List UInt8) (P : List Int) : Prop :=
  ∀ G, isFormula G = true → fmText G = s → (d = G.dg ∧ t = G.tn) ∧ (G.nm.size = m ∧ G.pw.length = m) ∧ N = G.nm.data.toList.take k ∧ P = G.pw.take k
theorem rd_split {s : ByteArray} {G : Fm} (h : isFormula G = true) (ht : fmText G = s) {p0 : List UInt8} {ps : List (List UInt8)} (hs : splitC 42 s.data.toList = p0 :: ps) :
    p0 = (figText G.dg G.tn).data.toList ∧ ps.length = G.nm.size ∧ ∀ k (hk : k < ps.length), ps[k] = partB G.nm (G.pw.getD k 0) k := by
  have e := fm_split h
  rw [ht, hs] at e
  unfold pieces at e
  obtain ⟨e1, e2⟩ := List.cons.inj e
  subst e2
  exact ⟨e1, by simp, fun k hk => by simp⟩
theorem rd_fig {s : ByteArray} {p0 : List UInt8} {ps : List (List UInt8)} (hs : splitC 42 s.data.toList = p0 :: ps) {G : Fm} (h : isFormula G = true) (ht : fmText G = s) : readFig (str p0) = ((G.dg, G.tn), true) := by
  obtain ⟨e1, _, _⟩ := rd_split h ht hs
  rw [e1, str_list]
  exact readFig_whole (by simp only [isFormula, Bool.and_eq_true] at h; exact h.1.1.1)
theorem RdI.start {s : ByteArray} {p0 : List UInt8} {ps : List (List UInt8)} (hs : splitC 42 s.data.toList = p0 :: ps) {d t : Int} {b : Bool} (hf : readFig (str p0) = ((d, t), b)) : RdI s d t ps.length 0 [] [] := fun G h ht => by
  have e := rd_fig hs h ht
  rw [hf] at e
  obtain ⟨e1, e2⟩ := Prod.mk.inj e
  obtain ⟨e3, e4⟩ := Prod.mk.inj e1
  have hl := (isFormula_len h).1
  have hm := (rd_split h ht hs).2.1
  exact ⟨⟨e3, e4⟩, ⟨hm.symm, by omega⟩, by simp, by simp⟩
theorem RdI.fail {s : ByteArray} {p0 : List UInt8} {ps : List (List UInt8)} (hs : splitC 42 s.data.toList = p0 :: ps) {x : Int × Int} (hf : readFig (str p0) = (x, false)) : FmR s zeroFm false := FmR.bad fun G h ht => by
  have e := rd_fig hs h ht
  rw [hf] at e
  cases (Prod.mk.inj e).2
theorem rd_part {s : ByteArray} {p0 : List UInt8} {ps : List (List UInt8)} (hs : splitC 42 s.data.toList = p0 :: ps) {k : Nat} (hk : k < ps.length) {G : Fm} (h : isFormula G = true) (ht : fmText G = s) : ∃ hi : k < G.nm.size, rdPart ps[k] = ([G.nm[k]'hi], G.pw.getD k 0, true) := by
  obtain ⟨_, e1, e2⟩ := rd_split h ht hs
  exact ⟨by omega, by rw [e2 k hk]; exact rdPart_part h (by omega)⟩
theorem RdI.bad {s : ByteArray} {p0 : List UInt8} {ps : List (List UInt8)} (hs : splitC 42 s.data.toList = p0 :: ps) {k : Nat} (hk : k < ps.length) (hb : (rdPart ps[k]).2.2 = false ∨ (rdPart ps[k]).1.length ≠ 1) : FmR s zeroFm false := FmR.bad fun G h ht => by
  obtain ⟨_, e⟩ := rd_part hs hk h ht
  rw [e] at hb
  simp at hb
theorem take_snoc {α : Type} {l : List α} {k : Nat} {x : α} (h : l[k]? = some x) : l.take (k + 1) = l.take k ++ [x] := by
  obtain ⟨hk, rfl⟩ := List.getElem?_eq_some_iff.1 h
  exact List.take_succ_eq_append_getElem hk
theorem RdI.next {s : ByteArray} {p0 : List UInt8} {ps : List (List UInt8)} (hs : splitC 42 s.data.toList = p0 :: ps) {d t : Int} {m k : Nat} {N : List UInt8} {P : List Int} (hI : RdI s d t m k N P) (hk : k < ps.length) {A : List UInt8} {n : Int} {b : Bool} (hp : rdPart ps[k] = (A, n, b)) :
    RdI s d t m (k + 1) (N ++ A) (P ++ [n]) := fun G h ht => by
  obtain ⟨h1, h2, h3, h4⟩ := hI G h ht
  obtain ⟨hi, e⟩ := rd_part hs hk h ht
  rw [hp] at e
  obtain ⟨e1, e2⟩ := Prod.mk.inj e
  obtain ⟨e3, _⟩ := Prod.mk.inj e2
  refine ⟨h1, h2, ?_, ?_⟩
  · rw [h3, e1, take_snoc (x := G.nm[k]'hi)]
    rw [Array.getElem?_toList, Array.getElem?_eq_getElem (show k < G.nm.data.size from hi)]; rfl
  · rw [h4, e3, take_snoc (x := G.pw.getD k 0)]
    have hk' : k < G.pw.length := by omega
    rw [List.getD_eq_getElem?_getD, List.getElem?_eq_getElem hk']; rfl
theorem RdI.done {s : ByteArray} {d t : Int} {m : Nat} {N : ByteArray} {P : List Int} (hI : RdI s d t m m N.data.toList P) (h1 : isFormula ⟨d, t, N, P⟩ = true) (h2 : fmText ⟨d, t, N, P⟩ = s) : FmR s ⟨d, t, N, P⟩ true := FmR.good h1 h2 fun G h ht => by
  obtain ⟨⟨rfl, rfl⟩, ⟨h3, h4⟩, h5, h6⟩ := hI G h ht
  rw [List.take_of_length_le (by rw [bytes_length, h3]; exact Nat.le_refl _)] at h5
  rw [List.take_of_length_le (by omega)] at h6
  have e : N = G.nm := by rw [← str_list N, h5, str_list]
  rw [e, h6]
theorem RdI.none {s : ByteArray} {d t : Int} {m : Nat} {N : ByteArray} {P : List Int} (hI : RdI s d t m m N.data.toList P) (hb : isFormula ⟨d, t, N, P⟩ = false ∨ fmText ⟨d, t, N, P⟩ ≠ s) : FmR s zeroFm false := FmR.bad fun G h ht => by
  obtain ⟨⟨rfl, rfl⟩, ⟨h3, h4⟩, h5, h6⟩ := hI G h ht
  rw [List.take_of_length_le (by rw [bytes_length, h3]; exact Nat.le_refl _)] at h5
  rw [List.take_of_length_le (by omega)] at h6
  have e : N = G.nm := by rw [← str_list N, h5, str_list]
  rw [e, h6] at hb
  rcases hb with hb | hb
  · rw [h] at hb; cases hb
  · exact hb ht
/-- the reference's pieces -/
theorem rdS_part {s : ByteArray} {p0 : List UInt8} {ps : List (List UInt8)} (hs : splitC 42 s.data.toList = p0 :: ps) {k : Nat} (hk : k < ps.length) {G : Fm} (h : isFormula G = true) (ht : fmText G = s) : ∃ hi : k < G.nm.size, rdPartS ps[k] = ([G.nm[k]'hi], G.pw.getD k 0) := by
  obtain ⟨_, e1, e2⟩ := rd_split h ht hs
  exact ⟨by omega, by rw [e2 k hk]; exact rdPartS_part h (by omega)⟩
theorem RdI.nextS {s : ByteArray} {p0 : List UInt8} {ps : List (List UInt8)} (hs : splitC 42 s.data.toList = p0 :: ps) {d t : Int} {m k : Nat} {N : List UInt8} {P : List Int} (hI : RdI s d t m k N P) (hk : k < ps.length) {A : List UInt8} {n : Int} (hp : rdPartS ps[k] = (A, n)) :
    RdI s d t m (k + 1) (N ++ A) (P ++ [n]) := fun G h ht => by
  obtain ⟨h1, h2, h3, h4⟩ := hI G h ht
  obtain ⟨hi, e⟩ := rdS_part hs hk h ht
  rw [hp] at e
  obtain ⟨e1, e3⟩ := Prod.mk.inj e
  refine ⟨h1, h2, ?_, ?_⟩
  · rw [h3, e1, take_snoc (x := G.nm[k]'hi)]
    rw [Array.getElem?_toList, Array.getElem?_eq_getElem (show k < G.nm.data.size from hi)]; rfl
  · rw [h4, e3, take_snoc (x := G.pw.getD k 0)]
    have hk' : k < G.pw.length := by omega
    rw [List.getD_eq_getElem?_getD, List.getElem?_eq_getElem hk']; rfl
end Go.Z
end
section
namespace Go.Z
/-- the code of a reading -/
def okCode : Bool → Int
  | true => 0
  | false => 6
end Go.Z
namespace Go.Proofs.YtmgocfdhngeeiaaGreatDoor
open Go.RowKit
end Go.Proofs.YtmgocfdhngeeiaaGreatDoor
end
section
namespace Go.Z
/-- how far the splitting has come -/
structure SplitI (c : UInt8) (l : List UInt8) (i m : Nat) (done : List (List UInt8)) : Prop where
  run : i ≤ l.length → splitC c l = done ++ splitC c (l.drop m) ∧ c ∉ (l.take i).drop m
  fin : l.length < i → done = splitC c l
theorem SplitI.start (c : UInt8) (l : List UInt8) : SplitI c l 0 0 [] := ⟨fun _ => ⟨rfl, by simp⟩, fun h => absurd h (by omega)⟩
theorem take_next {l : List UInt8} {i : Nat} (h : i < l.length) : l.take (i + 1) = l.take i ++ [l[i]] := by rw [List.take_succ_eq_append_getElem h]
theorem SplitI.other {c : UInt8} {l : List UInt8} {i m : Nat} {done : List (List UInt8)} (h : SplitI c l i m done) (hm : m ≤ i) (hi : i < l.length) (hc : l[i]'hi ≠ c) : SplitI c l (i + 1) m done := by
  obtain ⟨h1, h2⟩ := h.run (by omega)
  refine ⟨fun _ => ⟨h1, ?_⟩, fun h => absurd h (by omega)⟩
  rw [take_next hi, List.drop_append_of_le_length (by simp; omega)]
  intro hx
  rcases List.mem_append.1 hx with hx | hx
  · exact h2 hx
  · have h3 : c = l[i] := by simpa using hx
    exact hc h3.symm
theorem SplitI.hit {c : UInt8} {l : List UInt8} {i m : Nat} {done : List (List UInt8)} (h : SplitI c l i m done) (hm : m ≤ i) (hi : i < l.length) (hc : l[i]'hi = c) : SplitI c l (i + 1) (i + 1) (done ++ [(l.take i).drop m]) := by
  obtain ⟨h1, h2⟩ := h.run (by omega)
  have e : l.drop m = (l.take i).drop m ++ c :: l.drop (i + 1) := by
    rw [← hc, ← List.drop_eq_getElem_cons hi]
    have h3 : l.drop m = (l.take i ++ l.drop i).drop m := by rw [List.take_append_drop]
    rw [h3, List.drop_append_of_le_length (by simp; omega)]
  refine ⟨fun _ => ⟨?_, by simp⟩, fun h => absurd h (by omega)⟩
  rw [h1, e, splitC_cut _ h2, List.append_assoc]; rfl
theorem SplitI.last {c : UInt8} {l : List UInt8} {i m : Nat} {done : List (List UInt8)} (h : SplitI c l i m done) (hi : i = l.length) : SplitI c l (i + 1) (i + 1) (done ++ [(l.take i).drop m]) := by
  obtain ⟨h1, h2⟩ := h.run (by omega)
  subst hi
  rw [List.take_length] at h2 ⊢
  exact ⟨fun h => absurd h (by omega), fun _ => by rw [h1, splitC_piece h2]⟩
theorem extract_bytes (s : ByteArray) (a b : Nat) : (s.extract a b).data.toList = (s.data.toList.take b).drop a := by
  rw [ByteArray.data_extract, Array.toList_extract, List.drop_take]
end Go.Z
namespace Go.Proofs.YtmgocfdhngeeiaaGreatDoor
open Go.RowKit
theorem info_str : (Tryz.prog.info? 9).map (fun i => (i.zero, i.size, i.bytes)) = some (some (.string ByteArray.empty), 1, 16) := by kernel_rfl
/-- a row of strings -/
def strVals (ls : List (List UInt8)) : List Value := ls.map fun p => Value.string (Z.str p)
set_option maxRecDepth 100000 in
set_option maxHeartbeats 6400000 in
theorem l01Split_any (s : ByteArray) (c : UInt8) (w : World) (hs : s.size ≤ 1048576) :
    Calls Tryz.prog 47 #[.string s, .int .u8 (c.toNat : Int)] w fun e w' => (∃ v, e = .returned v ∧ w'.ownsRow w.heap.size 9 1 v (Z.splitC c s.data.toList).length (strVals (Z.splitC c s.data.toList))) ∧ K.Ext w w' := by
  have HSZ := Z.hide (Z.bytes_length s)
  obtain ⟨it0, hi0, hz0, hz1, hz2⟩ := info_parts info_str
  obtain ⟨C, hC⟩ : ∃ C : Int, C = (c.toNat : Int) := ⟨_, rfl⟩
  rw [← hC]
  have HC := Z.hide hC
  clear hC
  go_enter Tryz.func47, Tryz.ntmps47
  go_wp2
  go_loopw [5, 6, 7] (fun u fr i wr => ∃ (j m : Nat) (done : List (List UInt8)), fr = .int .i64 m ∧ i = .int .i64 j ∧ j ≤ s.size + 1 ∧ m ≤ j ∧ done.length ≤ j ∧ Hid (Z.SplitI c s.data.toList j m done) ∧ Hid (wr.ownsRow w.heap.size 9 1 u done.length (strVals done)) ∧ Hid (K.Ext w wr)) (fun _ _ i _ => s.size + 1 - (intOf i).toNat)
  case atStart => exact ⟨0, 0, [], rfl, rfl, Nat.zero_le _, Nat.le_refl _, Nat.le_refl _, Z.hide (Z.SplitI.start _ _), Z.hide (World.ownsRow_lit _ _ _ (Nat.le_refl _) (by decide) (by simp)), Z.hide ((K.Ext.refl _).alloc _)⟩
  case round =>
    obtain ⟨j, m, done, rfl, rfl, hj, hm, hd, HI, HO, HX⟩ := hrel
    have j0 : (0 : Int) ≤ (j : Int) := Int.natCast_nonneg j
    have m0 : (0 : Int) ≤ (m : Int) := Int.natCast_nonneg m
    have mj : (m : Int) ≤ (j : Int) := by omega
    have hw := HX.out.size
    by_cases hjn : j ≤ s.size
    · have j1 : (j : Int) ≤ (s.size : Int) := by omega
      have qj : IntKind.i64.wrap ((j : Int) + 1) = (j : Int) + 1 := IntWalk.i64_in _ (by omega)
      have hsl := K.cut_str (P := Tryz.prog) (t := 9) (s := s) (i := m) (j := j) (a := (m : Int)) (b := (j : Int)) Tryz.underlying9 rfl rfl hm hjn
      obtain ⟨P, hP⟩ : ∃ P, P = s.extract m j := ⟨_, rfl⟩
      rw [← hP] at hsl
      have HP := Z.hide (show Value.string P = Value.string (Z.str ((s.data.toList.take j).drop m)) by rw [hP, ← Z.extract_bytes, Z.str_list])
      clear hP
      rcases Nat.lt_or_ge j s.size with hlt | hge
      · have j2 : (j : Int) < (s.size : Int) := by omega
        have j3 : ((j : Int) == (s.size : Int)) = false := by simp; omega
        have j4 : ¬ ((j : Int) = (s.size : Int)) := by omega
        have hll : j < s.data.toList.length := by rw [HSZ.out]; exact hlt
        have HB := Z.hide (show s.data.toList[j]'hll = s[j]'hlt by rw [Array.getElem_toList]; rfl)
        cases hq : (((s[j]'hlt).toNat : Int) == C)
        · have hne : ¬ (((s[j]'hlt).toNat : Int) = C) := by simpa using hq
          have HN := Z.hide (HI.out.other hm hll (by rw [HB.out]; intro e; exact hne (by rw [e, HC.out])))
          go_wp2
          go_roundw
          case rel => exact ⟨j + 1, m, done, rfl, by go_num, by omega, by omega, by omega, HN, HO, HX⟩
          case measure => first | (simp [intOf]; done) | (simp [intOf]; omega)
        · have heq : ((s[j]'hlt).toNat : Int) = C := by simpa using hq
          have HN := Z.hide (HI.out.hit hm hll (by rw [HB.out]; exact UInt8.toNat_inj.1 (by have := HC.out; omega)))
          go_wp2_with (at_builtin; refine wpList_append_lies _ rfl _ _ _ rfl w.heap.size 9 it0 _ 1 16 Tryz.underlying67 hi0 hz0 hz1 hz2 rfl (by omega) _ done.length _ rfl (HO.out.alloc _) ⟨wr.heap.size, 0, none⟩ 1 1 [.string P] rfl rfl (World.news_of_block (cs := #[.string P]) (t := 9) (fr := (0, 0)) (K.block_new rfl)) (by simp [Value.oneCell']) (by omega) (by unfold maxLen; omega) (by omega) (by simp; omega) (wr.heap.size + 1) (by simp) ?_; intro g2 gcap2 w2 hown2 hgrow2 hat2 hlt3; have HO2 := Z.hide hown2; have HX2 : Hid (K.Ext w w2) := Z.hide ((HX.out.alloc _).below.grown hgrow2 (by simp; omega) (fun g hg => (HO.out.lt g hg).1)); clear hown2 hgrow2 hat2 hlt3)
          go_roundw
          case rel => exact ⟨j + 1, j + 1, done ++ [(s.data.toList.take j).drop m], by go_num, by go_num, by omega, by omega, by simp; omega, HN, Z.hide (by have := HO2.out; rw [HP.out] at this; simpa [strVals] using this), HX2⟩
          case measure => first | (simp [intOf]; done) | (simp [intOf]; omega)
      · obtain rfl : j = s.size := by omega
        have HN := Z.hide (HI.out.last (HSZ.out).symm)
        go_wp2_with (at_builtin; refine wpList_append_lies _ rfl _ _ _ rfl w.heap.size 9 it0 _ 1 16 Tryz.underlying67 hi0 hz0 hz1 hz2 rfl (by omega) _ done.length _ rfl (HO.out.alloc _) ⟨wr.heap.size, 0, none⟩ 1 1 [.string P] rfl rfl (World.news_of_block (cs := #[.string P]) (t := 9) (fr := (0, 0)) (K.block_new rfl)) (by simp [Value.oneCell']) (by omega) (by unfold maxLen; omega) (by omega) (by simp; omega) (wr.heap.size + 1) (by simp) ?_; intro g2 gcap2 w2 hown2 hgrow2 hat2 hlt3; have HO2 := Z.hide hown2; have HX2 : Hid (K.Ext w w2) := Z.hide ((HX.out.alloc _).below.grown hgrow2 (by simp; omega) (fun g hg => (HO.out.lt g hg).1)); clear hown2 hgrow2 hat2 hlt3)
        go_roundw
        case rel => exact ⟨s.size + 1, s.size + 1, done ++ [(s.data.toList.take s.size).drop m], by go_num, by go_num, by omega, by omega, by simp; omega, HN, Z.hide (by have := HO2.out; rw [HP.out] at this; simpa [strVals] using this), HX2⟩
        case measure => first | (simp [intOf]; done) | (simp [intOf]; omega)
    · have j1 : ¬ ((j : Int) ≤ (s.size : Int)) := by omega
      obtain rfl := HI.out.fin (by rw [HSZ.out]; omega)
      go_wp2
      go_ret
      exact ⟨⟨_, rfl, HO.out⟩, HX.out⟩
end Go.Proofs.YtmgocfdhngeeiaaGreatDoor
end
section
namespace Go.K
open Go.RowKit
end Go.K
namespace Go.Proofs.YtmgocfdhngeeiaaGreatDoor
open Go.RowKit
theorem split_any (s : ByteArray) (c : UInt8) (w : World) (hs : s.size ≤ 1048576) (hL : LV w) :
    Calls Tryz.prog 43 #[.string s, .string ⟨#[c]⟩] w fun e w' => (∃ b cap, e = .returned (.slice (some ⟨b, 0, none⟩) (Z.splitC c s.data.toList).length cap) ∧ (Z.splitC c s.data.toList).length ≤ cap ∧ w.heap.size ≤ b ∧ (∀ j (h : j < (Z.splitC c s.data.toList).length), w'.cell? ⟨b, j, none⟩ = some (.string (Z.str ((Z.splitC c s.data.toList)[j]'h))))) ∧ K.Ext w w' := by
  obtain ⟨m, hm⟩ := hL.maxl
  have hd : (Lib.splitB ⟨#[c]⟩ 0 (Lib.countB s ⟨#[c]⟩) s).map (·.data.toList) = Z.splitC c s.data.toList := by
    rw [Lib.splitB_data]; exact Z.split_C c s.data.toList
  have hl := Lib.splitB_all ⟨#[c]⟩ (Nat.le_refl 1) 0 _ s rfl
  have he : Lib.splitB ⟨#[c]⟩ 0 (Lib.countB s ⟨#[c]⟩) s = (Z.splitC c s.data.toList).map Z.str := by
    rw [← hd, List.map_map]
    conv => lhs; rw [← List.map_id (Lib.splitB ⟨#[c]⟩ 0 (Lib.countB s ⟨#[c]⟩) s)]
    exact List.map_congr_left fun p _ => (Z.str_list p).symm
  have hn : (Z.splitC c s.data.toList).length = Lib.countB s ⟨#[c]⟩ + 1 := by rw [← hl, he, List.length_map]
  refine (Tryz.strings_Split s ⟨#[c]⟩ m w (by omega) hm (Nat.le_refl 1)).mono fun e w' ⟨h1, h2⟩ => ?_
  subst h2
  refine ⟨⟨w.heap.size, Lib.countB s ⟨#[c]⟩ + 1, by rw [hn]; exact h1, by omega, Nat.le_refl _, fun j hj => ?_⟩, (K.Ext.refl _).alloc _⟩
  rw [he]
  refine K.cell_at (K.block_new rfl) ?_
  simp [List.getElem?_map, List.getElem?_eq_getElem hj]
end Go.Proofs.YtmgocfdhngeeiaaGreatDoor
end
section
namespace Go.K
open Go.RowKit
/-- what a call on the source may do -/
def RG (T : TypeId) (g : Nat) : Rel := ⟨fun w w' => Far g (g + 1) w w' ∧ (Src T w g → Src T w' g),
  fun a => ⟨Far.refl _ _ _, fun h => h⟩, fun _ _ _ h k => ⟨h.1.trans k.1, fun x => k.2 (h.2 x)⟩, fun _ _ h => ⟨Far.of_ext h, fun x => x.ext h⟩, fun _ _ h => h.1.size, g + 1,
  fun a b' k o h hk ho => by rw [h.1.block k (Array.getElem?_eq_some_iff.1 ho).1 (.inr hk)]; exact ho⟩
/-- a number below n -/
def SQ.lt_ {T : TypeId} {g : Nat} (n : Int) : SQ (RG T g) := SQ.of' (fun v _ => ∃ r : Int, v = .int .i64 r ∧ 0 ≤ r ∧ r < n) (fun _ _ _ _ x => x)
/-- a pointer to a string of one byte -/
def SQ.at1 {T : TypeId} {g : Nat} : SQ (RG T g) := SQ.of' (fun v w => ∃ (b i : Nat) (S : ByteArray), v = .pointer (some ⟨b, i, none⟩) ∧ w.cell? ⟨b, i, none⟩ = some (.string S) ∧ S.size = 1 ∧ g + 1 ≤ b) (fun _ _ _ h ⟨b, i, S, h1, h2, h3, h4⟩ => ⟨b, i, S, h1, h.1.cell_of h2 (.inr h4), h3, h4⟩)
/-- a string of one byte -/
def SQ.s1 {T : TypeId} {g : Nat} : SQ (RG T g) := SQ.of' (fun v _ => ∃ S : ByteArray, v = .string S ∧ S.size = 1) (fun _ _ _ _ x => x)
section steps
variable {R : Rel} {P : Program} {ops : Array Oper} {W : World} {ks : List Nat} {vs : List (SQ R)} {T : Act → World → Prop} {k : Nat} {o : Oper} {rest : List Oper} {s : Nat → Option Value} {a : Act} {w : World}
/-- an operation that leaves the world; its value fulfils a predicate -/
theorem y_tell (q : Value → World → Prop) (hw : Region.wanted o (yielded ops a.tmps) = true) (hk : ks.getD k 0 = 2) (hn : (vs.getD k SQ.any).nw = false) (hq : (vs.getD k SQ.any).p = q)
    (hrun : ∀ w', R.r W w' → (∀ j v, edge o j = true → ks.getD j 0 = 2 → s j = some v → qvals vs j v w') → ∃ v, (execOp a.eval o).run P w' = .ok (.value v) w' ∧ q v w')
    (h : ∀ v w', R.r w w' → q v w' → WalkY P ops W ks vs T (k + 1) rest (upd s k (some v)) (a.put o.dst v) w') : WalkY P ops W ks vs T k (o :: rest) s a w :=
  ⟨K2.Walk.told hw hk (fun w' _ hx hp => by
      obtain ⟨v, hr, hv⟩ := hrun w' hx hp
      rw [hr]
      exact ⟨trivial, R.re _, by unfold qvals; rw [hq]; exact hv, qApart vs hn _ _⟩)
    (fun v w' _ hx hv _ => (h v w' hx (by unfold qvals at hv; rw [hq] at hv; exact hv)).out)⟩
/-- a call whose value fulfils a predicate -/
theorem y_callq {f : FuncId} {args : Array Value} (q : Value → World → Prop) (hw : Region.wanted o (yielded ops a.tmps) = true) (hk : ks.getD k 0 = 2) (hn : (vs.getD k SQ.any).nw = false) (hq : (vs.getD k SQ.any).p = q) (hrun : ∀ w', (execOp a.eval o).run P w' = .ok (.enter f args) w')
    (hcall : ∀ w', R.r W w' → Calls P f args w' fun e w'' => ∃ v, e = .returned v ∧ R.r w' w'' ∧ q v w'')
    (h : ∀ v w', R.r w w' → q v w' → WalkY P ops W ks vs T (k + 1) rest (upd s k (some v)) (a.put o.dst v) w') : WalkY P ops W ks vs T k (o :: rest) s a w :=
  y_call hw hk hn hrun (fun w' hx hp => (hcall w' hx).mono fun e w'' ⟨v, he, hx', hv⟩ => ⟨v, he, hx', by unfold qvals; rw [hq]; exact hv⟩)
    (fun v w' hx hv => h v w' hx (by unfold qvals at hv; rw [hq] at hv; exact hv))
end steps
theorem sum_size (a b : ByteArray) : (a ++ b).size = a.size + b.size := ByteArray.size_append
theorem cut_size (a : ByteArray) {i j : Nat} (h : i ≤ j) (h2 : j ≤ a.size) : (a.extract i j).size = j - i := by rw [ByteArray.size_extract]; omega
end Go.K
namespace Go.Proofs.YtmgocfdhngeeiaaGreatDoor
open Go.RowKit
set_option maxRecDepth 100000 in
set_option maxHeartbeats 6400000 in
theorem l01Damage_any (g : Nat) (t : ByteArray) (w : World) (ht : t.size ≤ 100000) (h : K.Src 104 w g) :
    Calls Tryz.prog 42 #[.pointer (some ⟨g, 0, none⟩), .string t] w fun e w' => (∃ u : ByteArray, e = .returned (.string u) ∧ u.size ≤ t.size + 1) ∧ K.Src 104 w' g ∧ K.Far g (g + 1) w w' := by
  have lg := h.lt
  have F0 : K.Far g (g + 1) w w := K.Far.refl _ _ _
  go_enter Tryz.func42, Tryz.ntmps42
  go_wp2_with fail
  refine K.call (by with_reducible rfl) (by with_reducible rfl) (l01Next_any g _ _ (K.bsr h)) ?_
  rintro e w1 ⟨⟨r, rfl, r0, r1, r2⟩, s1, f1⟩
  have z1 := f1.size
  obtain ⟨k, rfl⟩ : ∃ k : Nat, r = (k : Int) := ⟨r.toNat, by omega⟩
  have hk : k ≤ t.size := by omega
  have k0 : (0 : Int) ≤ (k : Int) := Int.natCast_nonneg k
  have k1 : (k : Int) ≤ (t.size : Int) := by omega
  clear r1
  go_wp2_with fail
  refine K.call (by with_reducible rfl) (by with_reducible rfl) (l01Next_any g 8 _ (K.bsr s1)) ?_
  rintro e w2 ⟨⟨n, rfl, n0, n1, n2⟩, s2, f2⟩
  have z2 := f2.size
  have F2 : K.Far g (g + 1) w w2 := f1.trans f2
  have cA := Z.hide (K.cut_size t (Nat.zero_le k) hk)
  have cB := Z.hide (K.cut_size t hk (Nat.le_refl _))
  by_cases e0 : n = 0
  · subst e0
    go_wp2
    go_ret
    exact ⟨⟨_, rfl, by have := cA.out; omega⟩, s2, F2⟩
  · by_cases e1 : n = 1
    · subst e1
      go_wp2_with fail
      refine K.wp_region_y (R := K.RG 104 g) 13 [0, 0, 0, 2, 0, 2, 2, 2, 0, 0, 0, 0, 0] [K.SQ.any, K.SQ.any, K.SQ.any, K.SQ.sl 8 (g + 1) (Nat.le_refl _) (.cells #[.string ⟨#[48]⟩, .string ⟨#[35]⟩, .string ⟨#[46]⟩, .string ⟨#[47]⟩, .string ⟨#[32]⟩, .string ⟨#[97]⟩, .string ⟨#[45]⟩, .string ⟨#[10]⟩] 9), K.SQ.any, K.SQ.lt_ 8, K.SQ.at1, K.SQ.s1] (by kernel_rfl) (by kernel_rfl) ?_
      simp only [List.take_succ_cons, List.take_zero, List.drop_succ_cons, List.drop_zero]
      apply K.y_pure
      · rfl
      · rfl
      · intro w'; go_simp; first | done | exact K.vint (IntWalk.i64_in _ (by omega)) | rfl | exact ⟨rfl, rfl⟩
      simp only [Act.put, List.setIfInBounds_toArray, List.set]
      apply K.y_pure
      · rfl
      · rfl
      · intro w'; go_simp; first | done | exact K.vint (IntWalk.i64_in _ (by omega)) | rfl | exact ⟨rfl, rfl⟩
      simp only [Act.put, List.setIfInBounds_toArray, List.set]
      apply K.y_pure
      · rfl
      · rfl
      · intro w'; go_simp; first | done | exact K.vint (IntWalk.i64_in _ (by omega)) | rfl | exact ⟨rfl, rfl⟩
      simp only [Act.put, List.setIfInBounds_toArray, List.set]
      generalize t.extract 0 k = A at *
      apply K.y_newsl (Nat.le_refl _)
      · rfl
      · rfl
      · rfl
      · show g + 1 ≤ w2.heap.size; omega
      · intro w'; go_simp; first | done | rfl | exact ⟨rfl, rfl⟩
      intro g3 w_3 hx_3 hg3 hb_3 hn_3
      simp only [Act.put, List.setIfInBounds_toArray, List.set]
      apply K.y_pure
      · rfl
      · rfl
      · intro w'; go_simp; first | done | exact K.vint (IntWalk.i64_in _ (by omega)) | rfl | exact ⟨rfl, rfl⟩
      simp only [Act.put, List.setIfInBounds_toArray, List.set]
      apply K.y_callq (K.SQ.lt_ 8).p
      · rfl
      · rfl
      · rfl
      · rfl
      · intro w'; go_simp; first | done | rfl | exact ⟨rfl, rfl⟩
      · intro w' hx
        exact (l01Next_any g 8 w' (hx.2 s2.drew)).mono fun e w'' ⟨⟨r, he, a0, a1, a2⟩, hs, hf⟩ => ⟨_, he, ⟨hf, fun _ => hs⟩, ⟨r, rfl, a0, by omega⟩⟩
      intro v5 w_5 hx_5 hq5
      obtain ⟨r5, rfl, p0, p1⟩ := hq5
      obtain ⟨i, rfl⟩ : ∃ i : Nat, r5 = (i : Int) := ⟨r5.toNat, by omega⟩
      have hi8 : i < 8 := by omega
      simp only [Act.put, List.setIfInBounds_toArray, List.set]
      apply K.y_tell (K.SQ.at1).p
      · rfl
      · rfl
      · rfl
      · rfl
      · intro w' hx hp
        obtain ⟨g', hv, hg', hb'⟩ := (show K.NewB (g + 1) (K.slAt 8) _ _ w' from hp 3 _ (by kernel_rfl) rfl rfl)
        obtain rfl : g3 = g' := by simp only [K.slAt, Value.slice.injEq, Option.some.injEq, Addr.mk.injEq, and_true] at hv; exact hv
        have hc : ∃ S : ByteArray, w'.cell? ⟨g3, i, none⟩ = some (.string S) ∧ S.size = 1 := by
          match i, hi8 with
          | 0, _ => exact ⟨_, K.cell_at hb' rfl, rfl⟩
          | 1, _ => exact ⟨_, K.cell_at hb' rfl, rfl⟩
          | 2, _ => exact ⟨_, K.cell_at hb' rfl, rfl⟩
          | 3, _ => exact ⟨_, K.cell_at hb' rfl, rfl⟩
          | 4, _ => exact ⟨_, K.cell_at hb' rfl, rfl⟩
          | 5, _ => exact ⟨_, K.cell_at hb' rfl, rfl⟩
          | 6, _ => exact ⟨_, K.cell_at hb' rfl, rfl⟩
          | 7, _ => exact ⟨_, K.cell_at hb' rfl, rfl⟩
        obtain ⟨S, hc, hS⟩ := hc
        refine ⟨.pointer (some ⟨g3, i, none⟩), ?_, ⟨g3, i, S, rfl, hc, hS, hg'⟩⟩
        clear hb' hc hv
        go_simp
        all_goals first | rfl | exact ⟨rfl, rfl⟩
      intro v6 w_6 hx_6 hq6
      obtain ⟨b6, j6, _, rfl, _, _, _⟩ := hq6
      simp only [Act.put, List.setIfInBounds_toArray, List.set]
      apply K.y_tell (K.SQ.s1).p
      · rfl
      · rfl
      · rfl
      · rfl
      · intro w' hx hp
        obtain ⟨b', j', S, hv, hc, hS, _⟩ := (show (K.SQ.at1 (T := 104) (g := g)).p _ w' from hp 6 _ (by kernel_rfl) rfl rfl)
        simp only [Value.pointer.injEq, Option.some.injEq, Addr.mk.injEq, and_true] at hv
        obtain ⟨rfl, rfl⟩ := hv
        refine ⟨.string S, ?_, ⟨S, rfl, hS⟩⟩
        go_simp
        all_goals first | rfl | exact ⟨rfl, rfl⟩
      intro v7 w_7 hx_7 hq7
      obtain ⟨S, rfl, hS⟩ := hq7
      have HS1 := Z.hide hS
      have o1 : ¬ (9223372036854775807 < A.size + S.size) := by have := cA.out; omega
      have HAS : Hid ((A ++ S).size = k + 1) := Z.hide (by have := cA.out; rw [K.sum_size]; omega)
      clear hS
      simp only [Act.put, List.setIfInBounds_toArray, List.set]
      apply K.y_pure
      · rfl
      · rfl
      · intro w'; go_simp; first | done | exact K.vint (IntWalk.i64_in _ (by omega)) | rfl | exact ⟨rfl, rfl⟩
      simp only [Act.put, List.setIfInBounds_toArray, List.set]
      generalize A ++ S = AS at *
      apply K.y_pure
      · rfl
      · rfl
      · intro w'; go_simp; first | done | exact K.vint (IntWalk.i64_in _ (by omega)) | rfl | exact ⟨rfl, rfl⟩
      simp only [Act.put, List.setIfInBounds_toArray, List.set]
      apply K.y_pure
      · rfl
      · rfl
      · intro w'; go_simp; first | done | exact K.vint (IntWalk.i64_in _ (by omega)) | rfl | exact ⟨rfl, rfl⟩
      simp only [Act.put, List.setIfInBounds_toArray, List.set]
      apply K.y_pure
      · rfl
      · rfl
      · intro w'; go_simp; first | done | exact K.vint (IntWalk.i64_in _ (by omega)) | rfl | exact ⟨rfl, rfl⟩
      simp only [Act.put, List.setIfInBounds_toArray, List.set]
      generalize t.extract k t.size = B at *
      have o2 : ¬ (9223372036854775807 < AS.size + B.size) := by have := cB.out; have := HAS.out; omega
      apply K.y_pure
      · rfl
      · rfl
      · intro w'; go_simp; first | done | exact K.vint (IntWalk.i64_in _ (by omega)) | rfl | exact ⟨rfl, rfl⟩
      simp only [Act.put, List.setIfInBounds_toArray, List.set]
      apply K.y_done
      intro w3 h3
      have hf := (((hx_3.1.trans hx_5.1).trans hx_6.1).trans hx_7.1).trans h3.1
      have hs3 := h3.2 (hx_7.2 (hx_6.2 (hx_5.2 (hx_3.2 s2.drew))))
      have F3 : K.Far g (g + 1) w w3 := (F2.drew).trans hf
      have hsz : (AS ++ B).size ≤ t.size + 1 := by have := cB.out; have := HAS.out; rw [K.sum_size]; omega
      go_wp2_with fail
      refine NoPanic.normal ?_
      go_wp2
      go_ret
      exact ⟨⟨_, rfl, hsz⟩, hs3, F3⟩
    · by_cases e2 : n = 2
      · subst e2
        by_cases hkt : k < t.size
        · have k2 : (k : Int) < (t.size : Int) := by omega
          have k3 : (k : Int) + 1 ≤ (t.size : Int) := by omega
          have k4 : (0 : Int) ≤ (k : Int) + 1 := by omega
          have cC := Z.hide (K.cut_size t (show k + 1 ≤ t.size by omega) (Nat.le_refl _))
          have o1 : ¬ (9223372036854775807 < k + (t.size - (k + 1))) := by omega
          have osz : (t.extract 0 k ++ t.extract (k + 1) t.size).size ≤ t.size + 1 := by have := cA.out; have := cC.out; rw [K.sum_size]; omega
          have HSZ := Z.hide osz
          clear osz
          go_wp2_with fail
          refine K.wp_region_x 8 [0, 0, 0, 0, 0, 0, 0, 0] [] (by kernel_rfl) (by kernel_rfl) ?_
          simp only [List.take_succ_cons, List.take_zero, List.drop_succ_cons, List.drop_zero]
          iterate 8
            apply K.x_pure
            · rfl
            · rfl
            · intro w'; go_simp; first | done | exact K.vint (IntWalk.i64_in _ (by omega)) | rfl | exact ⟨rfl, rfl⟩
            simp only [Act.put, List.setIfInBounds_toArray, List.set]
          apply K.x_done
          intro w3 h_x
          have hx3 := K.Ext.id h_x
          clear h_x
          obtain ⟨⟨hcw3, hfw3⟩, hc'w3, hf'w3⟩ := hx3.all
          go_wp2_with fail
          refine NoPanic.normal ?_
          have X3 : K.Ext w2 w3 := ((K.Ext.refl _).drew).trans hx3
          go_wp2
          go_ret
          exact ⟨⟨_, rfl, HSZ.out⟩, s2.ext X3, F2.trans (K.Far.of_ext X3)⟩
        · have k2 : ¬ ((k : Int) < (t.size : Int)) := by omega
          go_wp2
          go_ret
          exact ⟨⟨_, rfl, by omega⟩, s2, F2⟩
      · go_wp2
        go_ret
        exact ⟨⟨_, rfl, by omega⟩, s2, F2⟩
end Go.Proofs.YtmgocfdhngeeiaaGreatDoor
end
section
namespace Go.Proofs.YtmgocfdhngeeiaaGreatDoor
open Go.RowKit
set_option maxRecDepth 100000 in
set_option maxHeartbeats 6400000 in
theorem l19Text_any (u : List Int) {lo hi : Nat} {p : Value} (w : World) (hl : u.length = 4) (hb : ∀ k, -1000000 ≤ u.getD k 0 ∧ u.getD k 0 ≤ 1000000) (h : K.ints w lo hi p u) :
    Calls Tryz.prog 40 #[p] w fun e w' => e = .returned (.string (Z.unitText u)) ∧ K.Ext w w' := by
  obtain ⟨o, cap, rfl, hh⟩ := h
  obtain ⟨b, off, rfl, _, _, hc⟩ := hh (by intro h0; rw [h0] at hl; simp at hl)
  have HL := Z.hide hl
  have HB := Z.hide hb
  have HC := Z.hide hc
  clear hh hc hb
  rw [hl]
  clear hl
  go_enter Tryz.func40, Tryz.ntmps40
  go_wp2
  go_loopw [3, 4] (fun s i wr => ∃ (k : Nat) (S : ByteArray), k ≤ 4 ∧ s = .string S ∧ i = .int .i64 k ∧ Hid (S = Z.str (Z.joinB 46 (Z.uParts u k))) ∧ S.size ≤ 22 * k ∧ Hid (K.Ext w wr)) (fun _ i _ => 4 - (intOf i).toNat)
  case atStart => exact ⟨0, ⟨#[]⟩, by omega, rfl, rfl, Z.hide rfl, by decide, Z.hide (K.Ext.refl _)⟩
  case round =>
    obtain ⟨k, S, hk, rfl, rfl, HS, hs, HX⟩ := hrel
    by_cases hlt : k < 4
    · have hck : wr.cell? ⟨b, off + k, none⟩ = some (.int .i64 (u.getD k 0)) := HX.out.cell_of (HC.out k (by rw [HL.out]; exact hlt))
      have HBk := Z.hide (HB.out k)
      have i0 : (0 : Int) ≤ (k : Int) := Int.natCast_nonneg k
      have i1 : (k : Int) < 4 := by omega
      have i2 : (k : Int) + 1 ≤ 4 := by omega
      have qk : IntKind.i64.wrap ((k : Int) + 1) = (k : Int) + 1 := IntWalk.i64_in _ (by omega)
      have hsl := K.cut_str (P := Tryz.prog) (t := 9) (s := ⟨#[109, 103, 115, 65]⟩) (i := k) (j := k + 1) (a := (k : Int)) (b := (k : Int) + 1) Tryz.underlying9 rfl (by omega) (by omega) (by show k + 1 ≤ 4; omega)
      rw [Z.base_ext hlt] at hsl
      have hbs : (Z.str [Z.baseB k]).size = 1 := rfl
      have HN := Z.hide (Z.uJoin_len u HB.out (k + 1))
      have HE := Z.hide (Z.uStr_empty (u := u) (k := k) HS.out)
      have HZ0 := Z.hide (fun h => Z.uText_zero (u := u) (k := k) h)
      have HF := Z.hide (fun h => Z.uStr_first (u := u) (k := k) h HS.out)
      have HM := Z.hide (fun h => Z.uStr_more (u := u) (k := k) h HS.out)
      have HD : ∀ w', Calls Tryz.prog 88 #[.int .i64 (u.getD k 0)] w' fun e w'' => e = .returned (.string (Z.dec (u.getD k 0))) ∧ K.Ext w' w'' := fun w' => l01Number_any _ w' (by have := HBk.out; omega) (by have := HBk.out; omega)
      have hds := (Z.dec_size (n := u.getD k 0) (by have := HBk.out; omega) (by have := HBk.out; omega)).2
      generalize u.getD k 0 = x at *
      generalize Z.str [Z.baseB k] = B at *
      obtain ⟨D, hD⟩ : ∃ D, D = Z.dec x := ⟨_, rfl⟩
      have HF' := Z.hide HF.out
      have HM' := Z.hide HM.out
      rw [← hD] at HD hds HF' HM'
      clear hD HF HM
      cases hx : (x == 0)
      · by_cases hp : Z.uParts u k = []
        · have he : S.toList.isEmpty = true := by rw [HE.out]; simpa using hp
          have he2 : (S.toList == []) = true := by simpa using he
          have HR := Z.hide (HF'.out hx hp)
          have hR := congrArg ByteArray.size HR.out
          rw [Z.str_size] at hR
          have HRs := Z.hide hR
          clear hR HF' HM' hp
          have o1 : ¬ (9223372036854775807 < S.size + 1) := by omega
          have o2 : ¬ (9223372036854775807 < S.size + 1 + D.size) := by omega
          cases h1 : (x == 1)
          · have HR2 := Z.hide (HR.out.trans (by rw [h1]))
            have HR3 := Z.hide (by have := HRs.out; rw [h1] at this; exact this)
            go_wp2_with fail
            refine K.call (by with_reducible rfl) (by with_reducible rfl) (HD _) ?_
            rintro e w2 ⟨rfl, f2⟩
            go_wp2
            go_roundw
            case rel => exact ⟨k + 1, _, by omega, rfl, by go_num, Z.hide HR2.out.symm, by have h_ := HR3.out; have h2_ := HN.out; simp only [Bool.false_eq_true, if_false] at h_; omega, Z.hide (HX.out.trans f2)⟩
            case measure => first | (simp [intOf]; done) | (simp [intOf]; omega)
          · have HR2 := Z.hide (HR.out.trans (by rw [h1]))
            have HR3 := Z.hide (by have := HRs.out; rw [h1] at this; exact this)
            go_wp2
            go_roundw
            case rel => exact ⟨k + 1, _, by omega, rfl, by go_num, Z.hide HR2.out.symm, by have h_ := HR3.out; have h2_ := HN.out; simp only [if_true] at h_; omega, HX⟩
            case measure => first | (simp [intOf]; done) | (simp [intOf]; omega)
        · have he : S.toList.isEmpty = false := by rw [HE.out]; simpa using hp
          have he2 : (S.toList == []) = false := by simpa using he
          have HR := Z.hide (HM'.out hx hp)
          have hR := congrArg ByteArray.size HR.out
          rw [Z.str_size] at hR
          have HRs := Z.hide hR
          clear hR HF' HM' hp
          have o1 : ¬ (9223372036854775807 < S.size + 1) := by omega
          have o2 : ¬ (9223372036854775807 < S.size + 1 + 1) := by omega
          have o2' : ¬ (9223372036854775807 < S.size + 2) := by omega
          have o3 : ¬ (9223372036854775807 < S.size + 1 + 1 + D.size) := by omega
          have o3' : ¬ (9223372036854775807 < S.size + 2 + D.size) := by omega
          cases h1 : (x == 1)
          · have HR2 := Z.hide (HR.out.trans (by rw [h1]))
            have HR3 := Z.hide (by have := HRs.out; rw [h1] at this; exact this)
            go_wp2_with fail
            refine K.call (by with_reducible rfl) (by with_reducible rfl) (HD _) ?_
            rintro e w2 ⟨rfl, f2⟩
            go_wp2
            go_roundw
            case rel => exact ⟨k + 1, _, by omega, rfl, by go_num, Z.hide HR2.out.symm, by have h_ := HR3.out; have h2_ := HN.out; simp only [Bool.false_eq_true, if_false] at h_; omega, Z.hide (HX.out.trans f2)⟩
            case measure => first | (simp [intOf]; done) | (simp [intOf]; omega)
          · have HR2 := Z.hide (HR.out.trans (by rw [h1]))
            have HR3 := Z.hide (by have := HRs.out; rw [h1] at this; exact this)
            go_wp2
            go_roundw
            case rel => exact ⟨k + 1, _, by omega, rfl, by go_num, Z.hide HR2.out.symm, by have h_ := HR3.out; have h2_ := HN.out; simp only [if_true] at h_; omega, HX⟩
            case measure => first | (simp [intOf]; done) | (simp [intOf]; omega)
      · have HR := Z.hide (HZ0.out hx)
        go_wp2
        go_roundw
        case rel => exact ⟨k + 1, S, by omega, rfl, by go_num, Z.hide (by rw [HR.out]; exact HS.out), by omega, HX⟩
        case measure => first | (simp [intOf]; done) | (simp [intOf]; omega)
    · obtain rfl : k = 4 := by omega
      have HE := Z.hide (Z.uStr_empty (u := u) (k := 4) HS.out)
      have HU : Hid (Z.unitText u = if Z.uParts u 4 = [] then Z.str [49] else S) := Z.hide (by unfold Z.unitText; rw [HS.out])
      by_cases hp : Z.uParts u 4 = []
      · have he : S.toList.isEmpty = true := by rw [HE.out]; simpa using hp
        have he2 : (S.toList == []) = true := by simpa using he
        have HR := Z.hide (HU.out.trans (if_pos hp))
        clear hp
        go_wp2
        go_ret
        exact ⟨by rw [HR.out]; rfl, HX.out⟩
      · have he : S.toList.isEmpty = false := by rw [HE.out]; simpa using hp
        have he2 : (S.toList == []) = false := by simpa using he
        have HR := Z.hide (HU.out.trans (if_neg hp))
        clear hp
        go_wp2
        go_ret
        exact ⟨by rw [HR.out]; rfl, HX.out⟩
theorem strVals_snoc (ps : List (List UInt8)) (p : List UInt8) : strVals (ps ++ [p]) = strVals ps ++ [Value.string (Z.str p)] := by simp [strVals]
theorem join_any (ps : List (List UInt8)) (c : UInt8) {base : Nat} {v : Value} (w : World) (hps : ps ≠ []) (hlen : (Z.joinB c ps).length ≤ 1048576) (hn : ps.length ≤ 1048576) (h : w.ownsRow base 9 1 v ps.length (strVals ps)) :
    Calls Tryz.prog 77 #[v, .string ⟨#[c]⟩] w fun e w' => e = .returned (.string (Z.str (Z.joinB c ps))) ∧ K.Ext w w' := by
  rcases h.2 with ⟨_, h0⟩ | ⟨g, cap, cur, rfl, hb, hg, hnc, _⟩
  · exact absurd (List.eq_nil_of_length_eq_zero h0) hps
  have hm : (ps.map Z.str).map (·.data.toList) = ps := by rw [List.map_map]; conv => rhs; rw [← List.map_id ps]
                                                          exact List.map_congr_left fun p _ => Z.str_bytes p
  have hj := Z.intercalate_join c ps
  have HC := Tryz.strings_Join g 0 cap (ps.map Z.str) ⟨#[c]⟩ w (fun j x hx => by
    have hj : j < ps.length := by have := (List.getElem?_eq_some_iff.1 hx).1; simpa using this
    have := h.cellAt j (by omega)
    rw [Nat.zero_add, this]
    rw [List.getElem?_map] at hx
    simp only [strVals]
    obtain ⟨q, hq, rfl⟩ := Option.map_eq_some_iff.1 hx
    rw [List.getElem?_map, hq]; rfl) (Array.getElem?_eq_some_iff.1 hg).1 (by simp; omega) (by simp; omega) (by rw [hm]; show (Lib.join ps [c]).length ≤ _; rw [hj]; omega)
  rw [List.length_map, hm] at HC
  refine HC.mono fun e w' ⟨he, hw⟩ => ⟨?_, hw⟩
  rw [he]
  show Ending.returned (.string ⟨(Lib.join ps [c]).toArray⟩) = _
  rw [hj]; rfl
set_option maxRecDepth 100000 in
set_option maxHeartbeats 6400000 in
theorem unitText_any (u : List Int) {lo hi : Nat} {p : Value} (w : World) (hl : u.length = 4) (hb : ∀ k, -1000000 ≤ u.getD k 0 ∧ u.getD k 0 ≤ 1000000) (h : K.ints w lo hi p u) (hL : LTab w) :
    Calls Tryz.prog 38 #[p] w fun e w' => e = .returned (.string (Z.unitText u)) ∧ K.Ext w w' := by
  obtain ⟨o, cap, rfl, hh⟩ := h
  obtain ⟨b, off, rfl, _, _, hc⟩ := hh (by intro h0; rw [h0] at hl; simp at hl)
  have HL := Z.hide hl
  have HB := Z.hide hb
  have HC := Z.hide hc
  have HT := Z.hide hL
  obtain ⟨it0, hi0, hz0, hz1, hz2⟩ := info_parts info_str
  clear hh hc hb hL
  rw [hl]
  clear hl
  go_enter Tryz.func38, Tryz.ntmps38
  go_wp2
  go_loopw [3, 9] (fun s i wr => ∃ (k : Nat), k ≤ 4 ∧ i = .int .i64 k ∧ Hid (wr.ownsRow w.heap.size 9 1 s (Z.uParts u k).length (strVals (Z.uParts u k))) ∧ Hid (K.Ext w wr)) (fun _ i _ => 4 - (intOf i).toNat)
  case atStart => exact ⟨0, by omega, rfl, Z.hide (World.ownsRow_lit _ _ _ (Nat.le_refl _) (by decide) (by simp)), Z.hide ((K.Ext.refl _).alloc _)⟩
  case round =>
    obtain ⟨k, hk, rfl, HO, HX⟩ := hrel
    have hw := HX.out.size
    have hpl := Z.uParts_len u k
    by_cases hlt : k < 4
    · have hck : wr.cell? ⟨b, off + k, none⟩ = some (.int .i64 (u.getD k 0)) := HX.out.cell_of (HC.out k (by rw [HL.out]; exact hlt))
      have HBk := Z.hide (HB.out k)
      have HTr := Z.hide (HT.out.ext HX.out)
      have i0 : (0 : Int) ≤ (k : Int) := Int.natCast_nonneg k
      have i1 : (k : Int) < 4 := by omega
      have i2 : (k : Int) + 1 ≤ 4 := by omega
      have qk : IntKind.i64.wrap ((k : Int) + 1) = (k : Int) + 1 := IntWalk.i64_in _ (by omega)
      have hsl := K.cut_str (P := Tryz.prog) (t := 9) (s := ⟨#[109, 103, 115, 65]⟩) (i := k) (j := k + 1) (a := (k : Int)) (b := (k : Int) + 1) Tryz.underlying9 rfl (by omega) (by omega) (by show k + 1 ≤ 4; omega)
      rw [Z.base_ext hlt] at hsl
      have hbs : (Z.str [Z.baseB k]).size = 1 := rfl
      have HD : ∀ w', LTab w' → Calls Tryz.prog 87 #[.int .i64 (u.getD k 0)] w' fun e w'' => e = .returned (.string (Z.dec (u.getD k 0))) ∧ K.Ext w' w'' := fun w' h => decimal_any _ w' (by have := HBk.out; omega) (by have := HBk.out; omega) h
      have hds := (Z.dec_size (n := u.getD k 0) (by have := HBk.out; omega) (by have := HBk.out; omega)).2
      have HZ0 := Z.hide (fun h => Z.uText_zero (u := u) (k := k) h)
      have HZ1 := Z.hide (fun h => Z.uText_next (u := u) (k := k) h)
      have HP1 := Z.hide (fun h => Z.uPart_one (k := k) (n := u.getD k 0) h)
      have HP2 : Hid ((u.getD k 0 == 1) = false → Z.str [Z.baseB k] ++ Z.dec (u.getD k 0) = Z.str (Z.uPart k (u.getD k 0))) := Z.hide (fun h => by unfold Z.dec; rw [Z.uPart_other h, Z.str_append]; rfl)
      generalize u.getD k 0 = x at *
      obtain ⟨m, hm⟩ : ∃ m, m = (Z.uParts u k).length := ⟨_, rfl⟩
      have HM := Z.hide hm
      rw [← hm] at HO hpl
      clear hm
      cases hx : (x == 0)
      · have HN := Z.hide (HZ1.out hx)
        cases h1 : (x == 1)
        · have HQ := Z.hide (HP2.out h1)
          generalize Z.str [Z.baseB k] = B at *
          generalize Z.dec x = D at *
          have o1 : ¬ (9223372036854775807 < 1 + D.size) := by omega
          go_wp2_with fail
          go_region_held3 (fun w' => True) (exact trivial) (first | (have t_ := f2; refine K.step_app1 (.tmp 15) (.tmp 23) 67 (by rfl) (by rfl) w.heap.size 9 it0 _ 16 Tryz.underlying67 hi0 hz0 hz1 hz2 _ m _ rfl ((K.row_ext HO.out g2).alloc _) rfl w2.heap.size (.string (B ++ D)) rfl (K.cell_at (K.block_new rfl) rfl) (by simp [Value.oneCell']) (by unfold maxLen; omega) (by omega) (by have := g2.size; simp; omega) ?_; intro g3 cap3 w3 hown3 hgrow3 hlt3) | (go_at_call 87; refine K.call (by with_reducible rfl) (by with_reducible rfl) (HD _ (K.TabV.ext HTr.out (by repeat' (first | with_reducible exact K.Ext.refl _ | with_reducible refine K.Ext.drew ?_ | with_reducible refine K.Ext.alloc ?_ _)))) ?_; rintro e w2 ⟨rfl, f2⟩; have g2 : K.Ext wr w2 := (by first | exact f2 | exact ((K.Ext.refl wr).drew).trans f2)))
          have HO3 := Z.hide hown3
          have HX3 : Hid (K.Ext w w3) := Z.hide (((HX.out.trans g2).alloc _).below.grown hgrow3 (by have := g2.size; simp; omega) (fun g hg => (HO.out.lt g hg).1))
          clear hown3 hgrow3 f2
          go_wp2
          go_roundw
          case rel => exact ⟨k + 1, by omega, by go_num, Z.hide (by have h_ := HO3.out; rw [HQ.out] at h_; rw [HN.out, strVals_snoc, List.length_append, List.length_singleton, ← HM.out]; exact h_), HX3⟩
          case measure => first | (simp [intOf]; done) | (simp [intOf]; omega)
        · have HQ := Z.hide (HP1.out h1)
          generalize hBB : Z.str [Z.baseB k] = B at *
          have HBB := Z.hide hBB
          clear hBB
          go_wp2_with (at_builtin; refine wpList_append_lies _ rfl _ _ _ rfl w.heap.size 9 it0 _ 1 16 Tryz.underlying67 hi0 hz0 hz1 hz2 rfl (by omega) _ m _ rfl (HO.out.alloc _) ⟨wr.heap.size, 0, none⟩ 1 1 [.string B] rfl rfl (World.news_of_block (cs := #[.string B]) (t := 9) (fr := (0, 0)) (K.block_new rfl)) (by simp [Value.oneCell']) (by omega) (by unfold maxLen; omega) (by omega) (by simp; omega) (wr.heap.size + 1) (by simp) ?_; intro g2 gcap2 w2 hown2 hgrow2 hat2 hlt3; have HO2 := Z.hide hown2; have HX2 : Hid (K.Ext w w2) := Z.hide ((HX.out.alloc _).below.grown hgrow2 (by simp; omega) (fun g hg => (HO.out.lt g hg).1)); clear hown2 hgrow2 hat2 hlt3)
          go_roundw
          case rel => exact ⟨k + 1, by omega, by go_num, Z.hide (by have h_ := HO2.out; rw [← HBB.out] at h_; rw [HN.out, HQ.out, strVals_snoc, List.length_append, List.length_singleton, ← HM.out]; exact h_), HX2⟩
          case measure => first | (simp [intOf]; done) | (simp [intOf]; omega)
      · have HR := Z.hide (HZ0.out hx)
        go_wp2
        go_roundw
        case rel => exact ⟨k + 1, by omega, by go_num, Z.hide (by rw [HR.out, ← HM.out]; exact HO.out), HX⟩
        case measure => first | (simp [intOf]; done) | (simp [intOf]; omega)
    · obtain rfl : k = 4 := by omega
      have HU : Hid (Z.unitText u = if Z.uParts u 4 = [] then Z.str [49] else Z.str (Z.joinB 46 (Z.uParts u 4))) := Z.hide rfl
      have HJ := Z.hide (Z.uJoin_len u HB.out 4)
      obtain ⟨c4, hc4⟩ : ∃ c, c = (Z.uParts u 4).length := ⟨_, rfl⟩
      by_cases hp : Z.uParts u 4 = []
      · have HR := Z.hide (HU.out.trans (if_pos hp))
        have hv := HO.out
        rw [hp] at hv
        rcases hv.2 with ⟨rfl, _⟩ | ⟨g, cc, cur, rfl, _⟩
        all_goals
          clear hp hv hc4 HO
          go_wp2
          go_ret
          exact ⟨by rw [HR.out]; rfl, HX.out⟩
      · have HR := Z.hide (HU.out.trans (if_neg hp))
        have HK := join_any (Z.uParts u 4) 46 wr hp (by have := HJ.out; omega) (by omega) HO.out
        have hpos : 0 < (Z.uParts u 4).length := List.length_pos_iff.2 hp
        obtain ⟨g, cc, rfl, _, _⟩ := HO.out.form hpos
        rw [← hc4] at hpos HK
        have hq : ((c4 : Int) == 0) = false := by rw [beq_eq_false_iff_ne]; omega
        have hq' : ¬ (c4 = 0) := by omega
        rw [← hc4]
        clear hp hc4 HO
        go_wp2_with fail
        refine K.call (by with_reducible rfl) (by with_reducible rfl) HK ?_
        rintro e w2 ⟨rfl, f2⟩
        go_wp2
        go_ret
        exact ⟨by rw [HR.out]; rfl, HX.out.trans f2⟩
end Go.Proofs.YtmgocfdhngeeiaaGreatDoor
end
section
namespace Go.Z
def UnitText (u : List Int) : ByteArray × Int := if isUnit u then (unitText u, 0) else (⟨#[]⟩, 1)
theorem unit_parts {u : List Int} (h : isUnit u = true) : u.length = 4 ∧ ∀ k, -1000000 ≤ u.getD k 0 ∧ u.getD k 0 ≤ 1000000 := by
  simp only [isUnit, Bool.and_eq_true, beq_iff_eq, List.all_eq_true] at h
  refine ⟨h.2, fun k => ?_⟩
  rcases Nat.lt_or_ge k u.length with hk | hk
  · have hm : u.getD k 0 ∈ u := by rw [List.getD_eq_getElem?_getD, List.getElem?_eq_getElem hk]; exact List.getElem_mem hk
    have := h.1 _ hm
    simp only [in9, Bool.and_eq_true, decide_eq_true_eq] at this
    omega
  · rw [List.getD_eq_getElem?_getD, List.getElem?_eq_none hk]; simp
end Go.Z
namespace Go.Proofs.YtmgocfdhngeeiaaGreatDoor
open Go.RowKit
set_option maxRecDepth 100000 in
set_option maxHeartbeats 3200000 in
theorem impl_UnitText (u : List Int) {lo hi : Nat} {p : Value} (w : World) (hm : u.length ≤ 1048576) (h : K.ints w lo hi p u) (hL : LTab w) :
    Calls Tryz.prog 7 #[p] w fun e w' => e = .returned (.tuple #[.string (Z.UnitText u).1, .int .i64 (Z.UnitText u).2]) ∧ K.Ext w w' := by
  obtain ⟨o, cap, rfl, _⟩ := id h
  have HI := impl_IsUnit u _ _ _ w hm h
  cases hf : Z.isUnit u
  · have HE : Hid (Z.UnitText u = (⟨#[]⟩, 1)) := Z.hide (by unfold Z.UnitText; rw [hf]; rfl)
    rw [hf] at HI
    go_enter Tryz.func7, Tryz.ntmps7
    go_wp2_with fail
    refine K.call (by with_reducible rfl) (by with_reducible rfl) HI ?_
    rintro e _ ⟨rfl, rfl⟩
    go_wp2
    go_ret2
    exact ⟨by rw [HE.out]; rfl, K.Ext.refl _⟩
  · have HE : Hid (Z.UnitText u = (Z.unitText u, 0)) := Z.hide (by unfold Z.UnitText; rw [hf]; rfl)
    rw [hf] at HI
    have HV := Z.hide (Z.unit_parts hf)
    go_enter Tryz.func7, Tryz.ntmps7
    go_wp2_with fail
    refine K.call (by with_reducible rfl) (by with_reducible rfl) HI ?_
    rintro e _ ⟨rfl, rfl⟩
    go_wp2_with fail
    refine K.call (by with_reducible rfl) (by with_reducible rfl) (unitText_any u _ HV.out.1 HV.out.2 h hL) ?_
    rintro e w2 ⟨rfl, f2⟩
    go_wp2
    go_ret2
    exact ⟨by rw [HE.out]; rfl, f2⟩
set_option maxRecDepth 100000 in
set_option maxHeartbeats 3200000 in
theorem spec_UnitText (u : List Int) {lo hi : Nat} {p : Value} (w : World) (hm : u.length ≤ 1048576) (h : K.ints w lo hi p u) :
    Calls Tryz.prog 8 #[p] w fun e w' => e = .returned (.tuple #[.string (Z.UnitText u).1, .int .i64 (Z.UnitText u).2]) ∧ K.Ext w w' := by
  obtain ⟨o, cap, rfl, _⟩ := id h
  have HI := spec_IsUnit u _ _ _ w hm h
  cases hf : Z.isUnit u
  · have HE : Hid (Z.UnitText u = (⟨#[]⟩, 1)) := Z.hide (by unfold Z.UnitText; rw [hf]; rfl)
    rw [hf] at HI
    go_enter Tryz.func8, Tryz.ntmps8
    go_wp2_with fail
    refine K.call (by with_reducible rfl) (by with_reducible rfl) HI ?_
    rintro e _ ⟨rfl, rfl⟩
    go_wp2
    go_ret2
    exact ⟨by rw [HE.out]; rfl, K.Ext.refl _⟩
  · have HE : Hid (Z.UnitText u = (Z.unitText u, 0)) := Z.hide (by unfold Z.UnitText; rw [hf]; rfl)
    rw [hf] at HI
    have HV := Z.hide (Z.unit_parts hf)
    go_enter Tryz.func8, Tryz.ntmps8
    go_wp2_with fail
    refine K.call (by with_reducible rfl) (by with_reducible rfl) HI ?_
    rintro e _ ⟨rfl, rfl⟩
    go_wp2_with fail
    refine K.call (by with_reducible rfl) (by with_reducible rfl) (l19Text_any u _ HV.out.1 HV.out.2 h) ?_
    rintro e w2 ⟨rfl, f2⟩
    go_wp2
    go_ret2
    exact ⟨by rw [HE.out]; rfl, f2⟩
end Go.Proofs.YtmgocfdhngeeiaaGreatDoor
end
section
namespace Go.Z
theorem UnitText_size (u : List Int) : (UnitText u).1.size ≤ 100 := by
  unfold UnitText
  split
  · rename_i h
    have := uJoin_len u (unit_parts h).2 4
    show (unitText u).size ≤ 100
    unfold unitText
    split
    · show (1 : Nat) ≤ 100; omega
    · rw [str_size]; omega
  · show (0 : Nat) ≤ 100; omega
end Go.Z
namespace Go.Proofs.YtmgocfdhngeeiaaGreatDoor
open Go.RowKit
set_option maxRecDepth 100000 in
set_option maxHeartbeats 12800000 in
theorem DrawUnitText_any {hi n : Nat} {v : Value} (w : World) (hn : n ≤ 4096) (hh : hi ≤ w.heap.size) (h : K.byts w hi v n) :
    Calls Tryz.prog 6 #[v] w fun e w' => (∃ (u : Value) (xs : List Int), e = .returned (u) ∧ (3 ≤ xs.length ∧ xs.length ≤ 4) ∧ K.ints w' w.heap.size w'.heap.size u xs) ∧ K.Ext w w' := by
  have F0 : K.Ext w w := K.Ext.refl _
  go_enter Tryz.func6, Tryz.ntmps6
  go_wp2_with fail
  refine K.call (by with_reducible rfl) (by with_reducible rfl) (l01From_at (w.heap.size) _ (by simp) hn (by omega) (h.ext (K.bex F0))) ?_
  rintro e w1 ⟨⟨rfl, s1⟩, f1⟩
  have z1 := f1.size
  (try simp at z1)
  have F1 : K.Ext w w1 := K.Ext.trans (K.bex F0) f1
  have lg := s1.lt
  go_wp2_with fail
  refine K.call (by with_reducible rfl) (by with_reducible rfl) (l19Draw_any w.heap.size _ (K.bsr s1)) ?_
  rintro e w2 ⟨⟨u, xs, rfl, ⟨k3, k4⟩, hU⟩, s2, f2⟩
  have z2 := f2.size
  (try simp at z2)
  have F2 : K.Ext w w2 := K.Far.ext (K.bex F1) f2 (by omega)
  obtain ⟨oU, kU, rfl, _⟩ := id hU
  have IU_2 : K.ints w2 (w1.heap.size) w2.heap.size (.slice oU xs.length kU) xs := K.ints.mono (K.own.ints hU) (by simp) (Nat.le_refl _)
  clear hU
  go_wp2_with fail
  refine bodyPost_ret (v := .slice oU xs.length kU) (by unfold results; rw [Tryz.results6]; go_simp) rfl ⟨⟨_, xs, rfl, ⟨k3, k4⟩, K.ints.mono (K.bin IU_2) (by omega) (by first | omega | (simp; done) | (simp; omega))⟩, (K.bex F2)⟩
set_option maxRecDepth 100000 in
set_option maxHeartbeats 12800000 in
theorem DrawPowerUnit_any {hi n : Nat} {v : Value} (w : World) (hn : n ≤ 4096) (hh : hi ≤ w.heap.size) (h : K.byts w hi v n) :
    Calls Tryz.prog 12 #[v] w fun e w' => (∃ (u : Value) (xs : List Int) (c : Int), e = .returned (.tuple #[u, .int .i64 c]) ∧ (3 ≤ xs.length ∧ xs.length ≤ 4) ∧ K.ints w' w.heap.size w'.heap.size u xs) ∧ K.Ext w w' := by
  have F0 : K.Ext w w := K.Ext.refl _
  go_enter Tryz.func12, Tryz.ntmps12
  go_wp2_with fail
  refine K.call (by with_reducible rfl) (by with_reducible rfl) (l01From_at (w.heap.size) _ (by simp) hn (by omega) (h.ext (K.bex F0))) ?_
  rintro e w1 ⟨⟨rfl, s1⟩, f1⟩
  have z1 := f1.size
  (try simp at z1)
  have F1 : K.Ext w w1 := K.Ext.trans (K.bex F0) f1
  have lg := s1.lt
  go_wp2_with fail
  refine K.call (by with_reducible rfl) (by with_reducible rfl) (l19Draw_any w.heap.size _ (K.bsr s1)) ?_
  rintro e w2 ⟨⟨u, xs, rfl, ⟨k3, k4⟩, hU⟩, s2, f2⟩
  have z2 := f2.size
  (try simp at z2)
  have F2 : K.Ext w w2 := K.Far.ext (K.bex F1) f2 (by omega)
  obtain ⟨oU, kU, rfl, _⟩ := id hU
  have IU_2 : K.ints w2 (w1.heap.size) w2.heap.size (.slice oU xs.length kU) xs := K.ints.mono (K.own.ints hU) (by simp) (Nat.le_refl _)
  clear hU
  go_wp2_with fail
  refine K.call (by with_reducible rfl) (by with_reducible rfl) (l01Pick_any w.heap.size [0, 1, 2, 3, -1, -2, 5, 9, 10, -10] _ (K.bsr s2) (by simp) (by simp) (.inr (by omega)) (K.ints_lit (W := w2) (T := 2) (n := 10) (cs := #[.int .i64 (0), .int .i64 (1), .int .i64 (2), .int .i64 (3), .int .i64 (-1), .int .i64 (-2), .int .i64 (5), .int .i64 (9), .int .i64 (10), .int .i64 (-10)]) [0, 1, 2, 3, -1, -2, 5, 9, 10, -10] rfl rfl rfl)) ?_
  rintro e w3 ⟨⟨x, hx, rfl⟩, s3, f3⟩
  have z3 := f3.size
  (try simp at z3)
  have F3 : K.Ext w w3 := K.Far.ext (K.bex F2) f3 (by omega)
  have IU_3 := K.ints.far (K.bin IU_2) f3 (by first | exact .inl (by omega) | exact .inr (by omega))
  simp only [List.mem_cons, List.not_mem_nil, or_false] at hx
  go_wp2_with fail
  refine bodyPost_ret (v := .tuple #[.slice oU xs.length kU, .int .i64 x]) (by unfold results; rw [Tryz.results12]; go_simp) rfl ⟨⟨_, xs, x, rfl, ⟨k3, k4⟩, K.ints.mono (K.bin IU_3) (by omega) (by first | omega | (simp; done) | (simp; omega))⟩, (K.bex F3)⟩
set_option maxRecDepth 100000 in
set_option maxHeartbeats 12800000 in
theorem DrawReadUnit_any {hi n : Nat} {v : Value} (w : World) (hn : n ≤ 4096) (hh : hi ≤ w.heap.size) (h : K.byts w hi v n) :
    Calls Tryz.prog 9 #[v] w fun e w' => (∃ (s : ByteArray), e = .returned (.string s) ∧ s.size ≤ 5000) ∧ K.Ext w w' := by
  have F0 : K.Ext w w := K.Ext.refl _
  go_enter Tryz.func9, Tryz.ntmps9
  go_wp2_with fail
  refine K.call (by with_reducible rfl) (by with_reducible rfl) (l01From_at (w.heap.size) _ (by simp) hn (by omega) (h.ext (K.bex F0))) ?_
  rintro e w1 ⟨⟨rfl, s1⟩, f1⟩
  have z1 := f1.size
  (try simp at z1)
  have F1 : K.Ext w w1 := K.Ext.trans (K.bex F0) f1
  have lg := s1.lt
  go_wp2_with fail
  refine K.call (by with_reducible rfl) (by with_reducible rfl) (l19Draw_any w.heap.size _ (K.bsr s1)) ?_
  rintro e w2 ⟨⟨u, xs, rfl, ⟨k3, k4⟩, hU⟩, s2, f2⟩
  have z2 := f2.size
  (try simp at z2)
  have F2 : K.Ext w w2 := K.Far.ext (K.bex F1) f2 (by omega)
  obtain ⟨oU, kU, rfl, _⟩ := id hU
  have IU_2 : K.ints w2 (w1.heap.size) w2.heap.size (.slice oU xs.length kU) xs := K.ints.mono (K.own.ints hU) (by simp) (Nat.le_refl _)
  clear hU
  go_wp2_with fail
  refine K.call (by with_reducible rfl) (by with_reducible rfl) (spec_UnitText xs _ (by omega) (K.bin IU_2)) ?_
  rintro e w3 ⟨rfl, x3⟩
  have f3 : K.Far (w.heap.size) (w.heap.size + 1) _ w3 := K.Far.of_ext x3
  have s3 := K.Src.ext (K.bsr s2) x3
  have z3 := f3.size
  (try simp at z3)
  have F3 : K.Ext w w3 := K.Far.ext (K.bex F2) f3 (by omega)
  have IU_3 := K.ints.far (K.bin IU_2) f3 (by first | exact .inl (by omega) | exact .inr (by omega))
  have HT := Z.UnitText_size xs
  generalize (Z.UnitText xs).1 = T at *
  go_wp2_with fail
  refine K.call (by with_reducible rfl) (by with_reducible rfl) (l01Next_any w.heap.size (3) _ (K.bsr s3)) ?_
  rintro e w4 ⟨⟨m, rfl, m0, m1, m2⟩, s4, f4⟩
  have z4 := f4.size
  (try simp at z4)
  have F4 : K.Ext w w4 := K.Far.ext (K.bex F3) f4 (by omega)
  by_cases m0_ : m = 0
  · subst m0_
    go_wp2_with fail
    refine K.call (by with_reducible rfl) (by with_reducible rfl) (l01Damage_any w.heap.size T _ (by omega) (K.bsr s4)) ?_
    rintro e w5 ⟨⟨u, rfl, hu⟩, s5, f5⟩
    have z5 := f5.size
    (try simp at z5)
    have F5 : K.Ext w w5 := K.Far.ext (K.bex F4) f5 (by omega)
    go_wp2_with fail
    refine bodyPost_ret (v := .string u) (by unfold results; rw [Tryz.results9]; go_simp) rfl ⟨⟨u, rfl, by omega⟩, (K.bex F5)⟩
  · skip
    go_wp2_with fail
    refine bodyPost_ret (v := .string T) (by unfold results; rw [Tryz.results9]; go_simp) rfl ⟨⟨T, rfl, by omega⟩, (K.bex F4)⟩
end Go.Proofs.YtmgocfdhngeeiaaGreatDoor
end
section
namespace Go.Z
/-- the letters' indices that are not 0 -/
def uIdx (u : List Int) : Nat → List Nat
  | 0 => []
  | k + 1 => if u.getD k 0 == 0 then uIdx u k else uIdx u k ++ [k]
theorem uParts_idx (u : List Int) : ∀ k, uParts u k = (uIdx u k).map fun i => uPart i (u.getD i 0)
  | 0 => rfl
  | k + 1 => by
    unfold uParts uIdx
    split
    · exact uParts_idx u k
    · rw [uParts_idx u k, List.map_append, List.map_singleton]
theorem uIdx_mem (u : List Int) : ∀ k, ∀ i ∈ uIdx u k, i < k ∧ u.getD i 0 ≠ 0
  | 0, i, h => by cases h
  | k + 1, i, h => by
    unfold uIdx at h
    split at h
    · have := uIdx_mem u k i h; omega
    · rename_i hk
      rcases List.mem_append.1 h with h | h
      · have := uIdx_mem u k i h; omega
      · obtain rfl := List.mem_singleton.1 h
        exact ⟨by omega, fun e => hk (by rw [e]; rfl)⟩
def outL (v : List Int) (l : List Nat) : List Int := l.foldl (fun o i => o.set i (v.getD i 0)) [0, 0, 0, 0]
theorem outL_all {v : List Int} (h : v.length = 4) : outL v (uIdx v 4) = v := by
  match v, h with
  | [a, b, c, d], _ =>
    by_cases ha : a = 0 <;> by_cases hb : b = 0 <;> by_cases hc : c = 0 <;> by_cases hd : d = 0 <;> simp [uIdx, outL, ha, hb, hc, hd]
structure UnR (s : ByteArray) (u : List Int) (ok : Bool) : Prop where
  sound : ok = true → isUnit u = true ∧ unitText u = s
  zero : ok = false → u = []
  whole : ∀ v, isUnit v = true → unitText v = s → u = v ∧ ok = true
theorem UnR.same {s : ByteArray} {F G : List Int} {a b : Bool} (h : UnR s F a) (k : UnR s G b) : F = G ∧ a = b := by
  cases a <;> cases b
  · exact ⟨by rw [h.zero rfl, k.zero rfl], rfl⟩
  · obtain ⟨k1, k2⟩ := k.sound rfl
    have := (h.whole G k1 k2).2
    cases this
  · obtain ⟨k1, k2⟩ := h.sound rfl
    have := (k.whole F k1 k2).2
    cases this
  · obtain ⟨k1, k2⟩ := k.sound rfl
    exact ⟨(h.whole G k1 k2).1, rfl⟩
def RuI (s : ByteArray) (ps : List (List UInt8)) (k : Nat) (out : List Int) : Prop :=
  ∀ v, isUnit v = true → unitText v = s → uParts v 4 = ps ∧ out = outL v ((uIdx v 4).take k)
theorem base_not : ∀ {k : Nat}, k < 4 → (baseB k ≠ 46 ∧ baseB k ≠ 49)
  | 0, _ => by decide
  | 1, _ => by decide
  | 2, _ => by decide
  | 3, _ => by decide
theorem part_no46 {i : Nat} (n : Int) (h : i < 4) : (46 : UInt8) ∉ uPart i n := by
  unfold uPart
  intro hm
  rcases List.mem_cons.1 hm with hm | hm
  · exact (base_not h).1 hm.symm
  · split at hm
    · cases hm
    · exact itoa_no n (by decide) (by decide) hm
theorem parts_no46 (v : List Int) : ∀ p ∈ uParts v 4, (46 : UInt8) ∉ p := fun p hp => by
  rw [uParts_idx] at hp
  obtain ⟨i, hi, rfl⟩ := List.mem_map.1 hp
  exact part_no46 _ (uIdx_mem v 4 i hi).1
theorem ru_split {s : ByteArray} {v : List Int} (ht : unitText v = s) (hs : s ≠ ⟨#[49]⟩) : uParts v 4 = splitC 46 s.data.toList := by
  unfold unitText at ht
  split at ht
  · exact absurd ht.symm hs
  · rename_i hp
    rw [← ht, str_bytes, splitC_join hp (parts_no46 v)]
theorem RuI.start {s : ByteArray} (hs : s ≠ ⟨#[49]⟩) : RuI s (splitC 46 s.data.toList) 0 [0, 0, 0, 0] := fun v h ht => ⟨ru_split ht hs, rfl⟩
theorem RuI.one : RuI ⟨#[49]⟩ [] 0 [0, 0, 0, 0] := fun v h ht => by
  refine ⟨?_, rfl⟩
  unfold unitText at ht
  split at ht
  · rename_i hp; exact hp
  · rename_i hp
    have e : joinB 46 (uParts v 4) = [49] := str_inj (b := [49]) ht
    have e2 := splitC_join (c := 46) hp (parts_no46 v)
    rw [e] at e2
    have e3 : uParts v 4 = [[49]] := e2.symm
    rw [uParts_idx] at e3
    have hm : [(49 : UInt8)] ∈ (uIdx v 4).map fun i => uPart i (v.getD i 0) := by rw [e3]; simp
    obtain ⟨i, hi, hp2⟩ := List.mem_map.1 hm
    have hb := (base_not (uIdx_mem v 4 i hi).1).2
    unfold uPart at hp2
    exact absurd (List.cons.inj hp2).1 hb
theorem ru_at {s : ByteArray} {ps : List (List UInt8)} {k : Nat} {out : List Int} (hI : RuI s ps k out) {p : List UInt8} (hp : ps[k]? = some p) {v : List Int} (h : isUnit v = true) (ht : unitText v = s) :
    ∃ i, i < 4 ∧ v.getD i 0 ≠ 0 ∧ p = uPart i (v.getD i 0) ∧ (uIdx v 4)[k]? = some i ∧ out = outL v ((uIdx v 4).take k) := by
  obtain ⟨h1, h2⟩ := hI v h ht
  rw [← h1, uParts_idx, List.getElem?_map] at hp
  obtain ⟨i, hi, rfl⟩ := Option.map_eq_some_iff.1 hp
  have hm := uIdx_mem v 4 i (List.mem_of_getElem? hi)
  exact ⟨i, hm.1, hm.2, rfl, hi, h2⟩
theorem outL_next {v : List Int} {k i : Nat} {l : List Nat} (h : l[k]? = some i) : outL v (l.take (k + 1)) = (outL v (l.take k)).set i (v.getD i 0) := by
  unfold outL; rw [take_snoc h, List.foldl_append]; rfl
def rdU (t : List UInt8) : Int × Bool := if t = [] then (1, true) else number (str t)
def rdUS (t : List UInt8) : Int := if t = [] then 1 else (signed t).1
theorem rd_uPart {i : Nat} {n : Int} (h0 : -1000000 ≤ n) (h1 : n ≤ 1000000) {c : UInt8} {t : List UInt8} (h : c :: t = uPart i n) : c = baseB i ∧ rdU t = (n, true) ∧ rdUS t = n := by
  unfold uPart at h
  obtain ⟨rfl, rfl⟩ := List.cons.inj h
  refine ⟨rfl, ?_⟩
  split
  · rename_i hn
    rw [beq_iff_eq.1 hn]
    exact ⟨rfl, rfl⟩
  · unfold rdU rdUS
    rw [if_neg (itoa_ne n), if_neg (itoa_ne n), signed_itoa (by omega) (by omega)]
    exact ⟨number_dec (by omega) (by omega), rfl⟩
/-- the letter's index, as the program finds it -/
def uIx (c : UInt8) : Int := Lib.indexByte [109, 103, 115, 65] c
theorem uIx_base : ∀ {i : Nat}, i < 4 → uIx (baseB i) = (i : Int)
  | 0, _ => by decide
  | 1, _ => by decide
  | 2, _ => by decide
  | 3, _ => by decide
theorem uIx_le (c : UInt8) : -1 ≤ uIx c ∧ uIx c ≤ 3 := by
  unfold uIx
  simp only [Lib.indexByte]
  repeat' split
  all_goals simp_all
theorem unit_bound {v : List Int} (h : isUnit v = true) (i : Nat) : -1000000 ≤ v.getD i 0 ∧ v.getD i 0 ≤ 1000000 := (unit_parts h).2 i
theorem UnR.good {s : ByteArray} {F : List Int} (h1 : isUnit F = true) (h2 : unitText F = s) (h : ∀ G, isUnit G = true → unitText G = s → F = G) : UnR s F true :=
  ⟨fun _ => ⟨h1, h2⟩, fun h => (by cases h), fun G a b => ⟨h G a b, rfl⟩⟩
theorem UnR.bad {s : ByteArray} (h : ∀ G, isUnit G = true → unitText G ≠ s) : UnR s [] false :=
  ⟨fun h => (by cases h), fun _ => rfl, fun G a b => absurd b (h G a)⟩
theorem RuI.empty {s : ByteArray} {ps : List (List UInt8)} {k : Nat} {out : List Int} (hI : RuI s ps k out) (hp : ps[k]? = some []) : UnR s [] false := UnR.bad fun v h ht => by
  obtain ⟨i, _, _, e, _⟩ := ru_at hI hp h ht
  unfold uPart at e
  cases e
theorem RuI.bad {s : ByteArray} {ps : List (List UInt8)} {k : Nat} {out : List Int} (hI : RuI s ps k out) {c : UInt8} {t : List UInt8} (hp : ps[k]? = some (c :: t)) (hb : uIx c < 0 ∨ (rdU t).2 = false) : UnR s [] false := UnR.bad fun v h ht => by
  obtain ⟨i, h4, _, e, _⟩ := ru_at hI hp h ht
  obtain ⟨rfl, e2, _⟩ := rd_uPart (unit_bound h i).1 (unit_bound h i).2 e
  rw [uIx_base h4, e2] at hb
  rcases hb with hb | hb
  · omega
  · cases hb
theorem RuI.next {s : ByteArray} {ps : List (List UInt8)} {k : Nat} {out : List Int} (hI : RuI s ps k out) {c : UInt8} {t : List UInt8} (hp : ps[k]? = some (c :: t)) {j : Nat} (hj : uIx c = (j : Int)) {n : Int} {b : Bool} (hn : rdU t = (n, b)) : RuI s ps (k + 1) (out.set j n) := fun v h ht => by
  obtain ⟨i, h4, _, e, h5, h6⟩ := ru_at hI hp h ht
  obtain ⟨rfl, e2, _⟩ := rd_uPart (unit_bound h i).1 (unit_bound h i).2 e
  rw [uIx_base h4] at hj
  obtain rfl : i = j := by omega
  rw [hn] at e2
  obtain ⟨rfl, _⟩ := Prod.mk.inj e2
  exact ⟨(hI v h ht).1, by rw [outL_next h5, ← h6]⟩
/-- what the reference's inner loop does -/
def updS (c : UInt8) (n : Int) (out : List Int) : Nat → List Int
  | 0 => out
  | j + 1 => if c = baseB j then (updS c n out j).set j n else updS c n out j
theorem updS_base : ∀ {i : Nat} (n : Int) (out : List Int), i < 4 → updS (baseB i) n out 4 = out.set i n
  | 0, n, out, _ => by simp [updS, baseB]
  | 1, n, out, _ => by simp [updS, baseB]
  | 2, n, out, _ => by simp [updS, baseB]
  | 3, n, out, _ => by simp [updS, baseB]
theorem RuI.nextS {s : ByteArray} {ps : List (List UInt8)} {k : Nat} {out : List Int} (hI : RuI s ps k out) {c : UInt8} {t : List UInt8} (hp : ps[k]? = some (c :: t)) : RuI s ps (k + 1) (updS c (rdUS t) out 4) := fun v h ht => by
  obtain ⟨i, h4, _, e, h5, h6⟩ := ru_at hI hp h ht
  obtain ⟨rfl, _, e2⟩ := rd_uPart (unit_bound h i).1 (unit_bound h i).2 e
  rw [updS_base _ _ h4, e2]
  exact ⟨(hI v h ht).1, by rw [outL_next h5, ← h6]⟩
theorem RuI.emptyS {s : ByteArray} {ps : List (List UInt8)} {k : Nat} {out : List Int} (hI : RuI s ps k out) (hp : ps[k]? = some []) : RuI s ps (k + 1) out := fun v h ht => by
  obtain ⟨i, _, _, e, _⟩ := ru_at hI hp h ht
  unfold uPart at e
  cases e
theorem ru_all {s : ByteArray} {ps : List (List UInt8)} {out : List Int} (hI : RuI s ps ps.length out) {v : List Int} (h : isUnit v = true) (ht : unitText v = s) : out = v := by
  obtain ⟨h1, h2⟩ := hI v h ht
  rw [← h1, uParts_idx, List.length_map, List.take_length, outL_all (unit_parts h).1] at h2
  exact h2
theorem RuI.done {s : ByteArray} {ps : List (List UInt8)} {out : List Int} (hI : RuI s ps ps.length out) (h1 : isUnit out = true) (h2 : unitText out = s) : UnR s out true := UnR.good h1 h2 fun v h ht => ru_all hI h ht
theorem RuI.none {s : ByteArray} {ps : List (List UInt8)} {out : List Int} (hI : RuI s ps ps.length out) (hb : isUnit out = false ∨ unitText out ≠ s) : UnR s [] false := UnR.bad fun v h ht => by
  rw [ru_all hI h ht] at hb
  rcases hb with hb | hb
  · rw [h] at hb; cases hb
  · exact hb ht
end Go.Z
end
section
namespace Go.K
open Go.RowKit
theorem own_setAt' {w : World} {lo hi b off n cap k : Nat} {x : Int} {xs : List Int} (hk : k < xs.length) (h : K.own w lo hi (.slice (some ⟨b, off, none⟩) n cap) xs) :
    K.own (w.setCell ⟨b, off + k, none⟩ (.int .i64 x)) lo hi (.slice (some ⟨b, off, none⟩) n cap) (xs.set k x) := by
  obtain ⟨o, cap', hv, hc⟩ := h
  simp only [Value.slice.injEq] at hv
  obtain ⟨rfl, rfl, rfl⟩ := hv
  obtain ⟨b', off', he, h1, h2, h3, h4⟩ := hc (by intro h0; simp [h0] at hk)
  simp only [Option.some.injEq, Addr.mk.injEq, and_true] at he
  obtain ⟨rfl, rfl⟩ := he
  exact ⟨some ⟨b, off, none⟩, cap, by simp, fun _ => ⟨b, off, rfl, h1, h2, fun i hi => row_set rfl hk h3 i (by simpa using hi), fun i hi => by rw [World.frozen?_setCell]; exact h4 i (by simpa using hi)⟩⟩
theorem zeros4 (w : World) (t : TypeId) : K.own (w.alloc (.cells #[.int .i64 0, .int .i64 0, .int .i64 0, .int .i64 0] t)) w.heap.size (w.heap.size + 1) (.slice (some ⟨w.heap.size, 0, none⟩) 4 4) [0, 0, 0, 0] :=
  ⟨_, 4, rfl, fun _ => ⟨w.heap.size, 0, rfl, Nat.le_refl _, Nat.lt_succ_self _, fun i hi => by
    match i, hi with
    | 0, _ => exact K.cell_at (K.block_new rfl) rfl
    | 1, _ => exact K.cell_at (K.block_new rfl) rfl
    | 2, _ => exact K.cell_at (K.block_new rfl) rfl
    | 3, _ => exact K.cell_at (K.block_new rfl) rfl, fun i hi => K.thaw_at (K.block_new rfl)⟩⟩
theorem own_slot {w : World} {lo hi b n c : Nat} {xs : List Int} (h : K.own w lo hi (.slice (some ⟨b, 0, none⟩) n c) xs) {i : Nat} (hi' : i < xs.length) : (w.cell? ⟨b, i, none⟩ = some (.int .i64 (xs.getD i 0)) ∧ w.frozen? ⟨b, i, none⟩ = false) ∧ lo ≤ b ∧ b < hi := by
  obtain ⟨o', c', hv, hh⟩ := h
  simp only [Value.slice.injEq] at hv
  obtain ⟨rfl, _, _⟩ := hv
  obtain ⟨b', off', he, h1, h2, h3, h4⟩ := hh (by intro h0; simp [h0] at hi')
  simp only [Option.some.injEq, Addr.mk.injEq, and_true] at he
  obtain ⟨rfl, rfl⟩ := he
  have a := h3 i hi'
  have c := h4 i hi'
  rw [Nat.zero_add] at a c
  exact ⟨⟨a, c⟩, h1, h2⟩
end Go.K
namespace Go.Proofs.YtmgocfdhngeeiaaGreatDoor
open Go.RowKit
theorem make4 (w : World) : (Instr.makeSlice 24 (.int .i64 4) (.int .i64 4)).run Tryz.prog w = .ok (.slice (some ⟨w.heap.size, 0, none⟩) 4 4) (w.alloc (.cells #[.int .i64 0, .int .i64 0, .int .i64 0, .int .i64 0] 2)) := by
  obtain ⟨it0, hi0, hz0, hz1, hz2⟩ := info_parts info_int
  have h_ := run_makeSlice (P := Tryz.prog) w 24 2 it0 (.int .i64 0) Tryz.underlying24 hi0 hz0 (kl := .i64) (kc := .i64) (l := 4) (c := 4) (by decide) (by decide) (by rw [hz1]; decide) (by rw [hz2]; decide) (by decide)
  rw [h_, hz1]
  rw [show madeCells (Value.int .i64 0).cells (Int.toNat 4 * 1) = #[.int .i64 0, .int .i64 0, .int .i64 0, .int .i64 0] by first | kernel_rfl | rfl | decide]
  rfl
set_option maxRecDepth 100000 in
set_option maxHeartbeats 6400000 in
theorem impl_ReadUnitR (s : ByteArray) (w : World) (hs : s.size ≤ 1048576) (hL : LV w) :
    Calls Tryz.prog 10 #[.string s] w fun e w' => (∃ (u : List Int) (ok : Bool) (p : Value), e = .returned (.tuple #[p, .int .i64 (Z.okCode ok)]) ∧ Z.UnR s u ok ∧ K.own w' w.heap.size w'.heap.size p u) ∧ K.Ext w w' := by
  have HLV := Z.hide hL
  have hmk := make4
  have hb1 := K.str_beq s ⟨#[49]⟩
  rw [show (⟨#[49]⟩ : ByteArray).toList = [49] by rw [Z.toList_data]] at hb1
  have LB : Hid (w.heap.size + 1 ≤ (w.alloc (.cells #[.int .i64 0, .int .i64 0, .int .i64 0, .int .i64 0] 2)).heap.size) := Z.hide (by simp)
  have HOW := Z.hide (K.zeros4 w 2)
  have hlen : ([0, 0, 0, 0] : List Int).length = 4 := rfl
  by_cases h1 : s = ⟨#[49]⟩
  · rw [decide_eq_true h1] at hb1
    have HI : Hid (Z.RuI s [] ([] : List (List UInt8)).length [0, 0, 0, 0]) := Z.hide (by rw [h1]; exact Z.RuI.one)
    clear h1 hL
    obtain ⟨out, hout⟩ : ∃ out : List Int, out = [0, 0, 0, 0] := ⟨_, rfl⟩
    rw [← hout] at HOW HI hlen
    clear hout
    go_enter Tryz.func10, Tryz.ntmps10
    have HIU := impl_IsUnit out _ _ _ (w.alloc (.cells #[.int .i64 0, .int .i64 0, .int .i64 0, .int .i64 0] 2)) (by omega) (K.own.ints HOW.out)
    try rw [hlen] at HIU
    have lW := (((K.Ext.refl w).alloc (.cells #[.int .i64 0, .int .i64 0, .int .i64 0, .int .i64 0] 2))).size
    cases hf : Z.isUnit out
    · have HR : Hid (Z.UnR s [] false) := Z.hide (Z.RuI.none HI.out (.inl hf))
      rw [hf] at HIU
      go_wp2_with fail
      refine K.call (by with_reducible rfl) (by with_reducible rfl) HIU ?_
      rintro e _ ⟨rfl, rfl⟩
      go_wp2
      refine bodyPost_ret (v := .tuple #[.slice none 0 0, .int .i64 6]) (by unfold results; rw [Tryz.results10]; go_simp) rfl ⟨⟨[], false, _, rfl, HR.out, K.own_nil _ _ _⟩, ?_⟩
      exact ((K.Ext.refl w).alloc (.cells #[.int .i64 0, .int .i64 0, .int .i64 0, .int .i64 0] 2))
    · have HV := Z.hide (Z.unit_parts hf)
      have HUT := unitText_any out (w.alloc (.cells #[.int .i64 0, .int .i64 0, .int .i64 0, .int .i64 0] 2)) HV.out.1 HV.out.2 (K.own.ints HOW.out) (HLV.out.ext ((K.Ext.refl w).alloc (.cells #[.int .i64 0, .int .i64 0, .int .i64 0, .int .i64 0] 2))).t
      rw [hf] at HIU
      try rw [hlen] at HUT
      obtain ⟨D, hD⟩ : ∃ D, D = Z.unitText out := ⟨_, rfl⟩
      have HD := Z.hide hD
      have HVV := Z.hide hf
      rw [← hD] at HUT
      clear hD hf
      have hbq := K.str_beq D s
      go_wp2_with fail
      refine K.call (by with_reducible rfl) (by with_reducible rfl) HIU ?_
      rintro e _ ⟨rfl, rfl⟩
      go_wp2_with fail
      refine K.call (by with_reducible rfl) (by with_reducible rfl) HUT ?_
      rintro e w9 ⟨rfl, f9⟩
      by_cases heq : D = s
      · have HR : Hid (Z.UnR s out true) := Z.hide (Z.RuI.done HI.out HVV.out (by rw [← HD.out]; exact heq))
        rw [decide_eq_true heq] at hbq
        clear heq
        go_wp2
        refine bodyPost_ret (v := .tuple #[.slice (some ⟨w.heap.size, 0, none⟩) 4 4, .int .i64 0]) (by unfold results; rw [Tryz.results10]; go_simp) rfl ⟨⟨out, true, _, rfl, HR.out, ?_⟩, ?_⟩
        · refine K.own.mono (lo := w.heap.size) (hi := w.heap.size + 1) ?_ (by omega) (by have := f9.size; have := LB.out; omega)
          have h_ := K.own.ext HOW.out f9
          exact h_
        · exact K.Ext.trans (((K.Ext.refl w).alloc (.cells #[.int .i64 0, .int .i64 0, .int .i64 0, .int .i64 0] 2))) f9
      · have HR : Hid (Z.UnR s [] false) := Z.hide (Z.RuI.none HI.out (.inr (by rw [← HD.out]; exact heq)))
        rw [decide_eq_false heq] at hbq
        clear heq
        go_wp2
        refine bodyPost_ret (v := .tuple #[.slice none 0 0, .int .i64 6]) (by unfold results; rw [Tryz.results10]; go_simp) rfl ⟨⟨[], false, _, rfl, HR.out, K.own_nil _ _ _⟩, ?_⟩
        exact K.Ext.trans (((K.Ext.refl w).alloc (.cells #[.int .i64 0, .int .i64 0, .int .i64 0, .int .i64 0] 2))) f9
  · rw [decide_eq_false h1] at hb1
    obtain ⟨ps, hps⟩ : ∃ ps, ps = Z.splitC 46 s.data.toList := ⟨_, rfl⟩
    have HI0 : Hid (Z.RuI s ps 0 [0, 0, 0, 0]) := Z.hide (by rw [hps]; exact Z.RuI.start h1)
    obtain ⟨m, hm⟩ : ∃ m, m = ps.length := ⟨_, rfl⟩
    have HM := Z.hide hm
    have hl0 := Z.bytes_length s
    have hms : m ≤ s.size + 1 := by have := Z.splitC_len 46 s.data.toList; rw [← hps, ← hm] at this; omega
    have HPL : Hid (∀ p ∈ ps, p.length ≤ 1048576) := Z.hide (fun p hp => by have := Z.splitC_mem_len 46 s.data.toList p (by rw [← hps]; exact hp); omega)
    have HS : ∀ w', LV w' → Calls Tryz.prog 43 #[.string s, .string ⟨#[46]⟩] w' fun e w'' => (∃ b cap, e = .returned (.slice (some ⟨b, 0, none⟩) m cap) ∧ m ≤ cap ∧ w'.heap.size ≤ b ∧ (∀ j p, ps[j]? = some p → w''.cell? ⟨b, j, none⟩ = some (.string (Z.str p)))) ∧ K.Ext w' w'' := fun w' hL' => (split_any s 46 w' hs hL').mono fun e w'' ⟨⟨b, cap, he, hc, hb, hx⟩, hw⟩ => ⟨⟨b, cap, by rw [he, hm, hps], by rw [hm, hps]; exact hc, hb, fun j p hj => by
      subst hps
      obtain ⟨hj', rfl⟩ := List.getElem?_eq_some_iff.1 hj
      exact hx j hj'⟩, hw⟩
    clear h1 hL hps hm hl0
    go_enter Tryz.func10, Tryz.ntmps10
    go_wp2_with fail
    refine K.call (by with_reducible rfl) (by with_reducible rfl) (HS _ (HLV.out.ext (by repeat' (first | with_reducible exact K.Ext.refl _ | with_reducible assumption | with_reducible refine K.Ext.drew ?_ | with_reducible refine K.Ext.alloc ?_ _ | with_reducible refine K.Ext.setCell ?_ ?_ _ | with_reducible refine K.Ext.trans ?_ (by with_reducible assumption) | (dsimp only; omega) | omega | exact K.Ext.refl _ | assumption | apply K.Ext.drew | refine K.Ext.alloc ?_ _ | refine K.Ext.setCell ?_ ?_ _ | (simp; done) | (simp; omega) | refine K.Ext.trans ?_ (by assumption))))) ?_
    rintro e w1 ⟨⟨b, cap, rfl, hcap, hb, hcs⟩, f1⟩
    have HCS := Z.hide hcs
    have HF1 := Z.hide f1
    have ls1 := f1.size
    simp only [World.size_alloc] at ls1 hb
    clear hcs HS
    have i0 : (0 : Int) ≤ (m : Int) := Int.natCast_nonneg m
    go_wp2
    go_loopw [15] (fun i wr => ∃ (k : Nat) (out : List Int), k ≤ m ∧ i = .int .i64 k ∧ out.length = 4 ∧ Hid (K.own wr w.heap.size (w.heap.size + 1) (.slice (some ⟨w.heap.size, 0, none⟩) 4 4) out) ∧ Hid (K.Ext w wr) ∧ Hid (K.Far w.heap.size (w.heap.size + 1) w1 wr) ∧ Hid (Z.RuI s ps k out)) (fun i _ => m - (intOf i).toNat)
    case atStart => exact ⟨0, [0, 0, 0, 0], Nat.zero_le _, rfl, rfl, Z.hide (K.own.ext HOW.out HF1.out), Z.hide (((K.Ext.refl _).alloc _).trans HF1.out), Z.hide (K.Far.refl _ _ _), HI0⟩
    case round =>
      obtain ⟨k, out, hk, rfl, hlen', HOr, HX, HF, HI⟩ := hrel
      clear hlen HOW LB HI0
      have hlen := hlen'
      clear hlen'
      have LB : Hid (w.heap.size + 1 ≤ wr.heap.size) := Z.hide (by have := HF.out.size; omega)
      by_cases hlt : k < m
      · have hkp : k < ps.length := by rw [← HM.out]; exact hlt
        obtain ⟨p, hp⟩ : ∃ p, p = ps[k]'hkp := ⟨_, rfl⟩
        have hpk : ps[k]? = some p := by rw [hp]; exact List.getElem?_eq_getElem hkp
        have HPK0 := Z.hide hpk
        have hpl := HPL.out p (List.mem_of_getElem? hpk)
        have hck : wr.cell? ⟨b, k, none⟩ = some (.string (Z.str p)) := HF.out.cell_of (HCS.out k p hpk) (.inr (by dsimp only; omega))
        have k0 : (0 : Int) ≤ (k : Int) := Int.natCast_nonneg k
        have k1 : (k : Int) < (m : Int) := by omega
        have qk : IntKind.i64.wrap ((k : Int) + 1) = (k : Int) + 1 := IntWalk.i64_in _ (by omega)
        have lB := LB.out
        clear hp hpk
        rcases p with _ | ⟨c, t⟩
        · have HPK := HPK0
          rw [show Z.str [] = ⟨#[]⟩ from rfl] at hck
          have HR : Hid (Z.UnR s [] false) := Z.hide (Z.RuI.empty HI.out HPK.out)
          go_wp2
          refine bodyPost_ret (v := .tuple #[.slice none 0 0, .int .i64 6]) (by unfold results; rw [Tryz.results10]; go_simp) rfl ⟨⟨[], false, _, rfl, HR.out, K.own_nil _ _ _⟩, ?_⟩
          exact HX.out
        · have HPK := HPK0
          have hbe := K.str_beq (Z.str (c :: t)) ⟨#[]⟩
          rw [decide_eq_false (show ¬ Z.str (c :: t) = ⟨#[]⟩ from fun e => by have := Z.str_inj (b := []) e; cases this), show (⟨#[]⟩ : ByteArray).toList = [] by rw [Z.toList_data]] at hbe
          have hbe' : (Z.str (c :: t)).toList.isEmpty = false := by simpa using hbe
          have e1 : (Z.str (c :: t)).extract 0 1 = ⟨#[c]⟩ := by rw [← Z.str_list ((Z.str (c :: t)).extract 0 1), Z.extract_bytes, Z.str_bytes]; rfl
          have e2 : (Z.str (c :: t)).extract 1 (Z.str (c :: t)).size = Z.str t := by rw [← Z.str_list ((Z.str (c :: t)).extract 1 (Z.str (c :: t)).size), Z.extract_bytes, Z.str_bytes, Z.str_size, List.take_length]; rfl
          have es : (Z.str (c :: t)).size = t.length + 1 := by rw [Z.str_size]; rfl
          have e3 := e2
          rw [es] at e3
          have i1 : (1 : Int) ≤ ((Z.str (c :: t)).size : Int) := by omega
          obtain ⟨x, hx⟩ : ∃ x, x = Z.uIx c := ⟨_, rfl⟩
          have hxl := Z.uIx_le c
          have HCt : ∀ w', Calls Tryz.prog 44 #[.string ⟨#[109, 103, 115, 65]⟩, .string ⟨#[c]⟩] w' fun e w'' => e = .returned (.bool (decide (0 ≤ x))) ∧ w' = w'' := fun w' => by rw [hx]; exact (Tryz.strings_Contains_one ⟨#[109, 103, 115, 65]⟩ c w').mono fun e w'' ⟨h1, h2⟩ => ⟨h1, h2.symm⟩
          have HIx : ∀ w', Calls Tryz.prog 46 #[.string ⟨#[109, 103, 115, 65]⟩, .string ⟨#[c]⟩] w' fun e w'' => e = .returned (.int .i64 x) ∧ w' = w'' := fun w' => by rw [hx]; exact (Tryz.strings_Index_one ⟨#[109, 103, 115, 65]⟩ c w').mono fun e w'' ⟨h1, h2⟩ => ⟨h1, h2.symm⟩
          have HXX := Z.hide hx
          rw [← hx] at hxl
          clear hx
          have hnum : ∃ y bx, Z.number (Z.str t) = (y, bx) := ⟨_, _, rfl⟩
          obtain ⟨y, bx, hn⟩ := hnum
          have HNum : ∀ w', LV w' → Calls Tryz.prog 45 #[.string (Z.str t)] w' fun e w'' => e = .returned (.tuple #[.int .i64 y, .bool bx]) ∧ K.Ext w' w'' := fun w' h => by have h_ := number_any (Z.str t) w' (by rw [Z.str_size]; simp at hpl; omega) h; rw [hn] at h_; exact h_
          have HN := Z.hide hn
          clear hn
          generalize Z.str (c :: t) = SP at hck hbe hbe' e1 e2 e3 es i1
          generalize hST : Z.str t = ST at e2 e3 HNum
          clear hST
          by_cases hx0 : 0 ≤ x
          · obtain ⟨j, hxj'⟩ : ∃ j : Nat, x = (j : Int) := ⟨x.toNat, by omega⟩
            subst hxj'
            have hxj : Z.uIx c = (j : Int) := HXX.out.symm
            have hj4 : j < 4 := by omega
            have j0 : (0 : Int) ≤ (j : Int) := Int.natCast_nonneg j
            have j1 : (j : Int) < 4 := by omega
            have dx : decide ((0 : Int) ≤ (j : Int)) = true := decide_eq_true j0
            rw [dx] at HCt
            by_cases ht : t = []
            · have n1 : ¬ ((1 : Int) < (SP.size : Int)) := by rw [es, ht]; simp
              have HRD : Hid (Z.rdU t = (1, true)) := Z.hide (by rw [ht]; rfl)
              clear ht
              go_wp2_with fail
              refine K.call (by with_reducible rfl) (by with_reducible rfl) (HCt _) ?_
              rintro e _ ⟨rfl, rfl⟩
              have HTr := Z.hide (K.own.ext HOr.out (K.Ext.refl wr))
              obtain ⟨⟨z0, z1⟩, _, _⟩ := K.own_slot HTr.out (i := j) (by omega)
              have HNX := Z.hide (K.own_setAt' (k := j) (x := 1) (by omega) HTr.out)
              have HXs := Z.hide (HX.out.trans (K.Ext.refl wr))
              have HFs := Z.hide (HF.out.trans (K.Far.of_ext (K.Ext.refl wr)))
              have hsz := ((K.Ext.refl wr)).size
              go_wp2_with fail
              refine K.call (by with_reducible rfl) (by with_reducible rfl) (HIx _) ?_
              rintro e _ ⟨rfl, rfl⟩
              go_wp2
              go_roundw
              case rel => exact ⟨k + 1, out.set j 1, by omega, by go_num, by rw [List.length_set]; exact hlen, Z.hide (by have h_ := HNX.out; rw [Nat.zero_add] at h_; exact h_), Z.hide (HXs.out.setCell (by dsimp only; omega) _), Z.hide (HFs.out.setCell (by dsimp only; omega) (by dsimp only; omega) _), Z.hide (Z.RuI.next HI.out HPK.out hxj HRD.out)⟩
              case measure => first | (simp [intOf]; done) | (simp [intOf]; omega)
            · have n1 : (1 : Int) < (SP.size : Int) := by have := List.length_pos_iff.2 ht; omega
              have HRD : Hid (Z.rdU t = (y, bx)) := Z.hide (by unfold Z.rdU; rw [if_neg ht]; exact HN.out)
              clear ht
              go_wp2_with fail
              refine K.call (by with_reducible rfl) (by with_reducible rfl) (HCt _) ?_
              rintro e _ ⟨rfl, rfl⟩
              go_wp2_with fail
              refine K.call (by with_reducible rfl) (by with_reducible rfl) (HNum _ (HLV.out.ext HX.out)) ?_
              rintro e w3 ⟨rfl, f3⟩
              cases bx
              · have HR : Hid (Z.UnR s [] false) := Z.hide (Z.RuI.bad HI.out HPK.out (.inr (by rw [HRD.out])))
                go_wp2
                refine bodyPost_ret (v := .tuple #[.slice none 0 0, .int .i64 6]) (by unfold results; rw [Tryz.results10]; go_simp) rfl ⟨⟨[], false, _, rfl, HR.out, K.own_nil _ _ _⟩, ?_⟩
                exact HX.out.trans f3
              · have HTr := Z.hide (K.own.ext HOr.out f3)
                obtain ⟨⟨z0, z1⟩, _, _⟩ := K.own_slot HTr.out (i := j) (by omega)
                have HNX := Z.hide (K.own_setAt' (k := j) (x := y) (by omega) HTr.out)
                have HXs := Z.hide (HX.out.trans f3)
                have HFs := Z.hide (HF.out.trans (K.Far.of_ext f3))
                have hsz := (f3).size
                go_wp2_with fail
                refine K.call (by with_reducible rfl) (by with_reducible rfl) (HIx _) ?_
                rintro e _ ⟨rfl, rfl⟩
                go_wp2
                go_roundw
                case rel => exact ⟨k + 1, out.set j y, by omega, by go_num, by rw [List.length_set]; exact hlen, Z.hide (by have h_ := HNX.out; rw [Nat.zero_add] at h_; exact h_), Z.hide (HXs.out.setCell (by dsimp only; omega) _), Z.hide (HFs.out.setCell (by dsimp only; omega) (by dsimp only; omega) _), Z.hide (Z.RuI.next HI.out HPK.out hxj HRD.out)⟩
                case measure => first | (simp [intOf]; done) | (simp [intOf]; omega)
          · have dx : decide ((0 : Int) ≤ x) = false := decide_eq_false hx0
            rw [dx] at HCt
            go_wp2_with fail
            refine K.call (by with_reducible rfl) (by with_reducible rfl) (HCt _) ?_
            rintro e _ ⟨rfl, rfl⟩
            have HR : Hid (Z.UnR s [] false) := Z.hide (Z.RuI.bad HI.out HPK.out (.inl (by rw [← HXX.out]; omega)))
            go_wp2
            refine bodyPost_ret (v := .tuple #[.slice none 0 0, .int .i64 6]) (by unfold results; rw [Tryz.results10]; go_simp) rfl ⟨⟨[], false, _, rfl, HR.out, K.own_nil _ _ _⟩, ?_⟩
            exact HX.out
      · obtain rfl : k = m := by omega
        have HI : Hid (Z.RuI s ps ps.length out) := Z.hide (by rw [← HM.out]; exact HI.out)
        have HOW := HOr
        have HIU := impl_IsUnit out _ _ _ wr (by omega) (K.own.ints HOW.out)
        try rw [hlen] at HIU
        have lW := (HX.out).size
        cases hf : Z.isUnit out
        · have HR : Hid (Z.UnR s [] false) := Z.hide (Z.RuI.none HI.out (.inl hf))
          rw [hf] at HIU
          go_wp2_with fail
          refine K.call (by with_reducible rfl) (by with_reducible rfl) HIU ?_
          rintro e _ ⟨rfl, rfl⟩
          go_wp2
          refine bodyPost_ret (v := .tuple #[.slice none 0 0, .int .i64 6]) (by unfold results; rw [Tryz.results10]; go_simp) rfl ⟨⟨[], false, _, rfl, HR.out, K.own_nil _ _ _⟩, ?_⟩
          exact HX.out
        · have HV := Z.hide (Z.unit_parts hf)
          have HUT := unitText_any out wr HV.out.1 HV.out.2 (K.own.ints HOW.out) (HLV.out.ext HX.out).t
          rw [hf] at HIU
          try rw [hlen] at HUT
          obtain ⟨D, hD⟩ : ∃ D, D = Z.unitText out := ⟨_, rfl⟩
          have HD := Z.hide hD
          have HVV := Z.hide hf
          rw [← hD] at HUT
          clear hD hf
          have hbq := K.str_beq D s
          go_wp2_with fail
          refine K.call (by with_reducible rfl) (by with_reducible rfl) HIU ?_
          rintro e _ ⟨rfl, rfl⟩
          go_wp2_with fail
          refine K.call (by with_reducible rfl) (by with_reducible rfl) HUT ?_
          rintro e w9 ⟨rfl, f9⟩
          by_cases heq : D = s
          · have HR : Hid (Z.UnR s out true) := Z.hide (Z.RuI.done HI.out HVV.out (by rw [← HD.out]; exact heq))
            rw [decide_eq_true heq] at hbq
            clear heq
            go_wp2
            refine bodyPost_ret (v := .tuple #[.slice (some ⟨w.heap.size, 0, none⟩) 4 4, .int .i64 0]) (by unfold results; rw [Tryz.results10]; go_simp) rfl ⟨⟨out, true, _, rfl, HR.out, ?_⟩, ?_⟩
            · refine K.own.mono (lo := w.heap.size) (hi := w.heap.size + 1) ?_ (by omega) (by have := f9.size; have := LB.out; omega)
              have h_ := K.own.ext HOW.out f9
              exact h_
            · exact K.Ext.trans (HX.out) f9
          · have HR : Hid (Z.UnR s [] false) := Z.hide (Z.RuI.none HI.out (.inr (by rw [← HD.out]; exact heq)))
            rw [decide_eq_false heq] at hbq
            clear heq
            go_wp2
            refine bodyPost_ret (v := .tuple #[.slice none 0 0, .int .i64 6]) (by unfold results; rw [Tryz.results10]; go_simp) rfl ⟨⟨[], false, _, rfl, HR.out, K.own_nil _ _ _⟩, ?_⟩
            exact K.Ext.trans (HX.out) f9
end Go.Proofs.YtmgocfdhngeeiaaGreatDoor
end
section
namespace Go.Proofs.YtmgocfdhngeeiaaGreatDoor
open Go.RowKit
set_option maxRecDepth 100000 in
set_option maxHeartbeats 12800000 in
theorem spec_ReadUnitR (s : ByteArray) (w : World) (hs : s.size ≤ 1048576) :
    Calls Tryz.prog 11 #[.string s] w fun e w' => (∃ (u : List Int) (ok : Bool) (p : Value), e = .returned (.tuple #[p, .int .i64 (Z.okCode ok)]) ∧ Z.UnR s u ok ∧ K.own w' w.heap.size w'.heap.size p u) ∧ K.Ext w w' := by
  have hb1 := K.str_beq s ⟨#[49]⟩
  rw [show (⟨#[49]⟩ : ByteArray).toList = [49] by rw [Z.toList_data]] at hb1
  obtain ⟨ps, hps⟩ : ∃ ps, ps = Z.splitC 46 s.data.toList := ⟨_, rfl⟩
  have HPS := Z.hide hps
  obtain ⟨m, hm⟩ : ∃ m, m = ps.length := ⟨_, rfl⟩
  have HM := Z.hide hm
  have hl0 := Z.bytes_length s
  have hms : m ≤ s.size + 1 := by have := Z.splitC_len 46 s.data.toList; rw [← hps, ← hm] at this; omega
  have hm0 : 0 < m := by rw [hm, hps]; exact List.length_pos_iff.2 (Z.splitC_ne 46 s.data.toList)
  have HPL : Hid (∀ p ∈ ps, p.length ≤ 1048576) := Z.hide (fun p hp => by have := Z.splitC_mem_len 46 s.data.toList p (by rw [← hps]; exact hp); omega)
  have HS : ∀ w', Calls Tryz.prog 47 #[.string s, .int .u8 46] w' fun e w'' => (∃ b cap, e = .returned (.slice (some ⟨b, 0, none⟩) m cap) ∧ w'.heap.size ≤ b ∧ (∀ j p, ps[j]? = some p → w''.cell? ⟨b, j, none⟩ = some (.string (Z.str p)))) ∧ K.Ext w' w'' := fun w' => (l01Split_any s 46 w' hs).mono fun e w'' ⟨⟨v, he, ho⟩, hw⟩ => ⟨by
      rw [← hps, ← hm] at ho
      obtain ⟨b, cap, rfl, hb, _⟩ := ho.form hm0
      refine ⟨b, cap, he, hb, fun j p hj => ?_⟩
      obtain ⟨hj', rfl⟩ := List.getElem?_eq_some_iff.1 hj
      have := ho.cellAt j (by omega)
      rw [this]
      simp [strVals, hj'], hw⟩
  clear hps hm hl0
  go_enter Tryz.func11, Tryz.ntmps11
  go_wp2_with fail
  refine K.call (by with_reducible rfl) (by with_reducible rfl) (HS _) ?_
  rintro e w1 ⟨⟨b, cap, rfl, hb, hcs⟩, f1⟩
  have HCS := Z.hide hcs
  have HF1 := Z.hide f1
  have ls1 := f1.size
  have hcf : ∀ j p, ps[j]? = some p → b < w1.heap.size := fun j p hj => World.block_lt_of_cell? w1 _ (hcs j p hj)
  have lb : b < w1.heap.size := by
    obtain ⟨p, hp⟩ : ∃ p, ps[0]? = some p := ⟨ps[0]'(by rw [← HM.out]; exact hm0), List.getElem?_eq_getElem _⟩
    exact hcf 0 p hp
  clear hcs HS hcf
  have HOW := Z.hide (K.zeros4 w1 2)
  have hlen : ([0, 0, 0, 0] : List Int).length = 4 := rfl
  by_cases h1 : s = ⟨#[49]⟩
  · rw [decide_eq_true h1] at hb1
    have HI : Hid (Z.RuI s [] ([] : List (List UInt8)).length [0, 0, 0, 0]) := Z.hide (by rw [h1]; exact Z.RuI.one)
    have i1 : (0 : Int) < (m : Int) := by omega
    clear h1
    obtain ⟨out, hout⟩ : ∃ out : List Int, out = [0, 0, 0, 0] := ⟨_, rfl⟩
    rw [← hout] at HOW HI hlen
    clear hout
    go_wp2
    go_loopw [6] (fun i wr => i = .int .i64 0 ∧ wr = w1.alloc (.cells #[.int .i64 0, .int .i64 0, .int .i64 0, .int .i64 0] 2)) (fun _ _ => 0)
    case atStart => exact ⟨rfl, rfl⟩
    case round =>
      obtain ⟨rfl, rfl⟩ := hrel
      have LB : Hid (w1.heap.size + 1 ≤ (w1.alloc (.cells #[.int .i64 0, .int .i64 0, .int .i64 0, .int .i64 0] 2)).heap.size) := Z.hide (by simp)
      have HIU := spec_IsUnit out _ _ _ (w1.alloc (.cells #[.int .i64 0, .int .i64 0, .int .i64 0, .int .i64 0] 2)) (by omega) (K.own.ints HOW.out)
      try rw [hlen] at HIU
      have lW := ((HF1.out.alloc (.cells #[.int .i64 0, .int .i64 0, .int .i64 0, .int .i64 0] 2))).size
      cases hf : Z.isUnit out
      · have HR : Hid (Z.UnR s [] false) := Z.hide (Z.RuI.none HI.out (.inl hf))
        rw [hf] at HIU
        go_wp2_with fail
        refine K.call (by with_reducible rfl) (by with_reducible rfl) HIU ?_
        rintro e _ ⟨rfl, rfl⟩
        go_wp2
        refine bodyPost_ret (v := .tuple #[.slice none 0 0, .int .i64 6]) (by unfold results; rw [Tryz.results11]; go_simp) rfl ⟨⟨[], false, _, rfl, HR.out, K.own_nil _ _ _⟩, ?_⟩
        exact (HF1.out.alloc (.cells #[.int .i64 0, .int .i64 0, .int .i64 0, .int .i64 0] 2))
      · have HV := Z.hide (Z.unit_parts hf)
        have HUT := l19Text_any out (w1.alloc (.cells #[.int .i64 0, .int .i64 0, .int .i64 0, .int .i64 0] 2)) HV.out.1 HV.out.2 (K.own.ints HOW.out)
        rw [hf] at HIU
        try rw [hlen] at HUT
        obtain ⟨D, hD⟩ : ∃ D, D = Z.unitText out := ⟨_, rfl⟩
        have HD := Z.hide hD
        have HVV := Z.hide hf
        rw [← hD] at HUT
        clear hD hf
        have hbq := K.str_beq D s
        go_wp2_with fail
        refine K.call (by with_reducible rfl) (by with_reducible rfl) HIU ?_
        rintro e _ ⟨rfl, rfl⟩
        go_wp2_with fail
        refine K.call (by with_reducible rfl) (by with_reducible rfl) HUT ?_
        rintro e w9 ⟨rfl, f9⟩
        by_cases heq : D = s
        · have HR : Hid (Z.UnR s out true) := Z.hide (Z.RuI.done HI.out HVV.out (by rw [← HD.out]; exact heq))
          rw [decide_eq_true heq] at hbq
          clear heq
          go_wp2
          refine bodyPost_ret (v := .tuple #[.slice (some ⟨w1.heap.size, 0, none⟩) 4 4, .int .i64 0]) (by unfold results; rw [Tryz.results11]; go_simp) rfl ⟨⟨out, true, _, rfl, HR.out, ?_⟩, ?_⟩
          · refine K.own.mono (lo := w1.heap.size) (hi := w1.heap.size + 1) ?_ (by omega) (by have := f9.size; have := LB.out; omega)
            have h_ := K.own.ext HOW.out f9
            exact h_
          · exact K.Ext.trans ((HF1.out.alloc (.cells #[.int .i64 0, .int .i64 0, .int .i64 0, .int .i64 0] 2))) f9
        · have HR : Hid (Z.UnR s [] false) := Z.hide (Z.RuI.none HI.out (.inr (by rw [← HD.out]; exact heq)))
          rw [decide_eq_false heq] at hbq
          clear heq
          go_wp2
          refine bodyPost_ret (v := .tuple #[.slice none 0 0, .int .i64 6]) (by unfold results; rw [Tryz.results11]; go_simp) rfl ⟨⟨[], false, _, rfl, HR.out, K.own_nil _ _ _⟩, ?_⟩
          exact K.Ext.trans ((HF1.out.alloc (.cells #[.int .i64 0, .int .i64 0, .int .i64 0, .int .i64 0] 2))) f9
  · rw [decide_eq_false h1] at hb1
    have HI0 : Hid (Z.RuI s ps 0 [0, 0, 0, 0]) := Z.hide (by rw [HPS.out]; exact Z.RuI.start h1)
    clear h1
    go_wp2
    go_loopw [6] (fun i wr => ∃ (k : Nat) (out : List Int), k ≤ m ∧ i = .int .i64 k ∧ out.length = 4 ∧ Hid (K.own wr w1.heap.size (w1.heap.size + 1) (.slice (some ⟨w1.heap.size, 0, none⟩) 4 4) out) ∧ Hid (K.Ext w wr) ∧ Hid (K.Far w1.heap.size (w1.heap.size + 1) w1 wr) ∧ Hid (Z.RuI s ps k out)) (fun i _ => m - (intOf i).toNat)
    case atStart => exact ⟨0, [0, 0, 0, 0], Nat.zero_le _, rfl, rfl, HOW, Z.hide (HF1.out.alloc _), Z.hide (K.Far.of_ext ((K.Ext.refl _).alloc _)), HI0⟩
    case round =>
      obtain ⟨k, out, hk, rfl, hlen', HOr, HX, HF, HI⟩ := hrel
      clear hlen HOW HI0
      have hlen := hlen'
      clear hlen'
      obtain ⟨_, lB0, _⟩ := (K.own_slot HOr.out (i := 0) (by omega))
      have LB : Hid (w1.heap.size + 1 ≤ wr.heap.size) := Z.hide (by have h_ := (K.own_slot HOr.out (i := 0) (by omega)).1.1; have := World.block_lt_of_cell? wr _ h_; dsimp only at this; omega)
      have lB := LB.out
      by_cases hlt : k < m
      · have hkp : k < ps.length := by rw [← HM.out]; exact hlt
        obtain ⟨p, hp⟩ : ∃ p, p = ps[k]'hkp := ⟨_, rfl⟩
        have hpk : ps[k]? = some p := by rw [hp]; exact List.getElem?_eq_getElem hkp
        have HPK0 := Z.hide hpk
        have hpl := HPL.out p (List.mem_of_getElem? hpk)
        have hck0 : w1.cell? ⟨b, k, none⟩ = some (.string (Z.str p)) := HCS.out k p hpk
        have k0 : (0 : Int) ≤ (k : Int) := Int.natCast_nonneg k
        have k1 : (k : Int) < (m : Int) := by omega
        have qk : IntKind.i64.wrap ((k : Int) + 1) = (k : Int) + 1 := IntWalk.i64_in _ (by omega)
        clear hp hpk
        rcases p with _ | ⟨c, t⟩
        · have HPK := HPK0
          rw [show Z.str [] = ⟨#[]⟩ from rfl] at hck0
          have HE := Z.hide (Z.RuI.emptyS HI.out HPK.out)
          go_wp2
          go_loopw [7] (fun i wj => ∃ (j : Nat), j ≤ 4 ∧ i = .int .i64 j ∧ Hid (K.own wj w1.heap.size (w1.heap.size + 1) (.slice (some ⟨w1.heap.size, 0, none⟩) 4 4) out) ∧ Hid (K.Ext w wj) ∧ Hid (K.Far w1.heap.size (w1.heap.size + 1) w1 wj)) (fun i _ => 4 - (intOf i).toNat)
          case atStart => exact ⟨0, by omega, rfl, HOr, HX, HF⟩
          case round =>
            obtain ⟨j, hj, rfl, HOj, HXj, HFj⟩ := hrel
            have hcj : wr.cell? ⟨b, k, none⟩ = some (.string ⟨#[]⟩) := HFj.out.cell_of hck0 (.inl (by dsimp only; omega))
            have j0 : (0 : Int) ≤ (j : Int) := Int.natCast_nonneg j
            by_cases hj4 : j < 4
            · have j1 : (j : Int) < 4 := by omega
              go_wp2_with fail
              refine K.wp_region_x 16 [0, 0, 0, 1, 0, 0, 0, 0, 0, 0, 1, 0, 0, 0, 0, 0] [] (by kernel_rfl) (by kernel_rfl) ?_
              simp only [List.take_succ_cons, List.take_zero, List.drop_succ_cons, List.drop_zero]
              iterate 3
                apply K.x_pure
                · rfl
                · rfl
                · intro w'; go_simp; first | done | exact K.vint (IntWalk.i64_in _ (by omega)) | rfl | exact ⟨rfl, rfl⟩
                simp only [Act.put, List.setIfInBounds_toArray, List.set]
              apply K.x_held
              · rfl
              · rfl
              · intro w' hx; have hc := hx.all.1.1; have hf := hx.all.1.2; have hc' := hx.all.2.1; have hf' := hx.all.2.2; go_simp; first | done | rfl | exact ⟨rfl, rfl⟩
              simp only [Act.put, List.setIfInBounds_toArray, List.set]
              iterate 3
                apply K.x_pure
                · rfl
                · rfl
                · intro w'; go_simp; first | done | exact K.vint (IntWalk.i64_in _ (by omega)) | rfl | exact ⟨rfl, rfl⟩
                simp only [Act.put, List.setIfInBounds_toArray, List.set]
              iterate 8
                refine K.x_skip (by rfl) ?_
                simp only [Act.put, List.setIfInBounds_toArray, List.set]
              apply K.x_pure
              · rfl
              · rfl
              · intro w'; go_simp; first | done | exact K.vint (IntWalk.i64_in _ (by omega)) | rfl | exact ⟨rfl, rfl⟩
              simp only [Act.put, List.setIfInBounds_toArray, List.set]
              apply K.x_done
              intro w3 h_x
              have hx3 := K.Ext.id h_x
              clear h_x
              obtain ⟨⟨hcw3, hfw3⟩, hc'w3, hf'w3⟩ := hx3.all
              refine wpList_nil ?_
              refine NoPanic.normal ?_
              have X3 := ((K.Ext.refl wr).drew).trans hx3
              go_wp2
              go_roundw
              case rel => exact ⟨j + 1, by omega, by go_num, Z.hide (K.own.ext HOj.out X3), Z.hide (HXj.out.trans X3), Z.hide (HFj.out.trans (K.Far.of_ext X3))⟩
              case measure => first | (simp [intOf]; done) | (simp [intOf]; omega)
            · obtain rfl : j = 4 := by omega
              go_wp2
              go_roundw
              case rel => exact ⟨k + 1, out, by omega, by go_num, hlen, HOj, HXj, HFj, HE⟩
              case measure => first | (simp [intOf]; done) | (simp [intOf]; omega)
        · have HPK := HPK0
          have e2 : (Z.str (c :: t)).extract 1 (Z.str (c :: t)).size = Z.str t := by rw [← Z.str_list ((Z.str (c :: t)).extract 1 (Z.str (c :: t)).size), Z.extract_bytes, Z.str_bytes, Z.str_size, List.take_length]; rfl
          have es : (Z.str (c :: t)).size = t.length + 1 := by rw [Z.str_size]; rfl
          have e3 := e2
          rw [es] at e3
          have hz0 : 0 < (Z.str (c :: t)).size := by omega
          have e0 : (Z.str (c :: t))[0]'hz0 = c := rfl
          have i1 : (1 : Int) ≤ ((Z.str (c :: t)).size : Int) := by omega
          have i0 : (0 : Int) < ((Z.str (c :: t)).size : Int) := by omega
          obtain ⟨y, bb, hn⟩ : ∃ y bb, Z.signed t = (y, bb) := ⟨_, _, rfl⟩
          have HSg : ∀ w', Calls Tryz.prog 48 #[.string (Z.str t)] w' fun e w'' => e = .returned (.tuple #[.int .i64 y, .bool bb]) ∧ K.Ext w' w'' := fun w' => by have h_ := l01Signed_any (Z.str t) w'; rw [Z.str_bytes, hn] at h_; exact h_
          have HN := Z.hide hn
          have HEnd := Z.hide (Z.RuI.nextS HI.out HPK.out)
          clear hn
          generalize Z.str (c :: t) = SP at hck0 e2 e3 es hz0 e0 i1 i0
          generalize hST : Z.str t = ST at e2 e3 HSg
          clear hST
          go_wp2
          go_loopw [7] (fun i wj => ∃ (j : Nat) (outj : List Int), j ≤ 4 ∧ i = .int .i64 j ∧ outj.length = 4 ∧ Hid (K.own wj w1.heap.size (w1.heap.size + 1) (.slice (some ⟨w1.heap.size, 0, none⟩) 4 4) outj) ∧ Hid (K.Ext w wj) ∧ Hid (K.Far w1.heap.size (w1.heap.size + 1) w1 wj) ∧ Hid (outj = Z.updS c (Z.rdUS t) out j)) (fun i _ => 4 - (intOf i).toNat)
          case atStart => exact ⟨0, out, by omega, rfl, hlen, HOr, HX, HF, Z.hide rfl⟩
          case round =>
            obtain ⟨j, outj, hj, rfl, hlj, HOj, HXj, HFj, HU⟩ := hrel
            have hcj : wr.cell? ⟨b, k, none⟩ = some (.string SP) := HFj.out.cell_of hck0 (.inl (by dsimp only; omega))
            have lBj : w1.heap.size + 1 ≤ wr.heap.size := by have h_ := (K.own_slot HOj.out (i := 0) (by omega)).1.1; have := World.block_lt_of_cell? wr _ h_; dsimp only at this; omega
            have nb : w1.heap.size ≠ b := by omega
            have nb' : b ≠ w1.heap.size := by omega
            clear HOr HX HF HI
            by_cases hj4 : j < 4
            · rcases (by omega : j = 0 ∨ j = 1 ∨ j = 2 ∨ j = 3) with rfl | rfl | rfl | rfl
              · have q0 : ((Z.baseB 0).toNat : Int) = 109 := rfl
                have eb : (⟨#[109, 103, 115, 65]⟩ : ByteArray)[0]'(by decide) = Z.baseB 0 := rfl
                have HTd := Z.hide (K.own.drew HOj.out)
                by_cases hcb : c = Z.baseB 0
                · have hq : (c.toNat : Int) = 109 := by rw [hcb]; rfl
                  have hq' : ((c.toNat : Int) == 109) = true := by rw [hq]; rfl
                  by_cases ht : t = []
                  · have n1 : ¬ ((1 : Int) < (SP.size : Int)) := by rw [es, ht]; simp
                    have HU1 : Hid (Z.updS c (Z.rdUS t) out (0 + 1) = outj.set 0 1) := Z.hide (by rw [Z.updS, if_pos hcb, ← HU.out, ht]; rfl)
                    clear ht hcb
                    go_wp2_with fail
                    refine K.wp_region_x 16 [0, 0, 0, 1, 0, 0, 0, 0, 0, 0, 1, 0, 0, 0, 0, 0] [] (by kernel_rfl) (by kernel_rfl) ?_
                    simp only [List.take_succ_cons, List.take_zero, List.drop_succ_cons, List.drop_zero]
                    iterate 3
                      apply K.x_pure
                      · rfl
                      · rfl
                      · intro w'; go_simp; first | done | exact K.vint (IntWalk.i64_in _ (by omega)) | rfl | exact ⟨rfl, rfl⟩
                      simp only [Act.put, List.setIfInBounds_toArray, List.set]
                    apply K.x_held
                    · rfl
                    · rfl
                    · intro w' hx; have hc := hx.all.1.1; have hf := hx.all.1.2; have hc' := hx.all.2.1; have hf' := hx.all.2.2; go_simp; first | done | rfl | exact ⟨rfl, rfl⟩
                    simp only [Act.put, List.setIfInBounds_toArray, List.set]
                    iterate 6
                      apply K.x_pure
                      · rfl
                      · rfl
                      · intro w'; go_simp; first | done | exact K.vint (IntWalk.i64_in _ (by omega)) | rfl | exact ⟨rfl, rfl⟩
                      simp only [Act.put, List.setIfInBounds_toArray, List.set]
                    apply K.x_held
                    · rfl
                    · rfl
                    · intro w' hx; have hc := hx.all.1.1; have hf := hx.all.1.2; have hc' := hx.all.2.1; have hf' := hx.all.2.2; go_simp; first | done | rfl | exact ⟨rfl, rfl⟩
                    simp only [Act.put, List.setIfInBounds_toArray, List.set]
                    iterate 5
                      apply K.x_pure
                      · rfl
                      · rfl
                      · intro w'; go_simp; first | done | exact K.vint (IntWalk.i64_in _ (by omega)) | rfl | exact ⟨rfl, rfl⟩
                      simp only [Act.put, List.setIfInBounds_toArray, List.set]
                    apply K.x_done
                    intro w3 h_x
                    have hx3 := K.Ext.id h_x
                    clear h_x
                    obtain ⟨⟨hcw3, hfw3⟩, hc'w3, hf'w3⟩ := hx3.all
                    refine wpList_nil ?_
                    refine NoPanic.normal ?_
                    have X3 : K.Ext wr w3 := ((K.Ext.refl _).drew).trans hx3
                    have HT3 := Z.hide (K.own.ext HOj.out X3)
                    obtain ⟨⟨z0, z1⟩, _, _⟩ := K.own_slot HT3.out (i := 0) (by omega)
                    have hcw := X3.cell_of hcj
                    have HNX := Z.hide (K.own_setAt' (k := 0) (x := 1) (by omega) HT3.out)
                    have lx3 := X3.size
                    go_wp2
                    go_roundw
                    case rel => exact ⟨0 + 1, outj.set 0 1, by omega, by go_num, by rw [List.length_set]; exact hlj, Z.hide (by have h_ := HNX.out; rw [Nat.zero_add] at h_; exact h_), Z.hide ((HXj.out.trans X3).setCell (by dsimp only; omega) _), Z.hide ((HFj.out.trans (K.Far.of_ext X3)).setCell (by dsimp only; omega) (by dsimp only; omega) _), Z.hide HU1.out.symm⟩
                    case measure => first | (simp [intOf]; done) | (simp [intOf]; omega)
                  · have n1 : (1 : Int) < (SP.size : Int) := by have := List.length_pos_iff.2 ht; omega
                    have HU1 : Hid (Z.updS c (Z.rdUS t) out (0 + 1) = (outj.set 0 1).set 0 y) := Z.hide (by rw [Z.updS, if_pos hcb, ← HU.out, List.set_set]; unfold Z.rdUS; rw [if_neg ht, HN.out])
                    clear ht hcb
                    go_wp2_with fail
                    refine K.wp_region_x 16 [0, 0, 0, 1, 0, 0, 0, 0, 0, 0, 1, 0, 0, 0, 0, 0] [] (by kernel_rfl) (by kernel_rfl) ?_
                    simp only [List.take_succ_cons, List.take_zero, List.drop_succ_cons, List.drop_zero]
                    iterate 3
                      apply K.x_pure
                      · rfl
                      · rfl
                      · intro w'; go_simp; first | done | exact K.vint (IntWalk.i64_in _ (by omega)) | rfl | exact ⟨rfl, rfl⟩
                      simp only [Act.put, List.setIfInBounds_toArray, List.set]
                    apply K.x_held
                    · rfl
                    · rfl
                    · intro w' hx; have hc := hx.all.1.1; have hf := hx.all.1.2; have hc' := hx.all.2.1; have hf' := hx.all.2.2; go_simp; first | done | rfl | exact ⟨rfl, rfl⟩
                    simp only [Act.put, List.setIfInBounds_toArray, List.set]
                    iterate 6
                      apply K.x_pure
                      · rfl
                      · rfl
                      · intro w'; go_simp; first | done | exact K.vint (IntWalk.i64_in _ (by omega)) | rfl | exact ⟨rfl, rfl⟩
                      simp only [Act.put, List.setIfInBounds_toArray, List.set]
                    apply K.x_held
                    · rfl
                    · rfl
                    · intro w' hx; have hc := hx.all.1.1; have hf := hx.all.1.2; have hc' := hx.all.2.1; have hf' := hx.all.2.2; go_simp; first | done | rfl | exact ⟨rfl, rfl⟩
                    simp only [Act.put, List.setIfInBounds_toArray, List.set]
                    iterate 5
                      apply K.x_pure
                      · rfl
                      · rfl
                      · intro w'; go_simp; first | done | exact K.vint (IntWalk.i64_in _ (by omega)) | rfl | exact ⟨rfl, rfl⟩
                      simp only [Act.put, List.setIfInBounds_toArray, List.set]
                    apply K.x_done
                    intro w3 h_x
                    have hx3 := K.Ext.id h_x
                    clear h_x
                    obtain ⟨⟨hcw3, hfw3⟩, hc'w3, hf'w3⟩ := hx3.all
                    refine wpList_nil ?_
                    refine NoPanic.normal ?_
                    have X3 : K.Ext wr w3 := ((K.Ext.refl _).drew).trans hx3
                    have HT3 := Z.hide (K.own.ext HOj.out X3)
                    obtain ⟨⟨z0, z1⟩, _, _⟩ := K.own_slot HT3.out (i := 0) (by omega)
                    have hcw := X3.cell_of hcj
                    have HNX : Hid (K.own (w3.setCell ⟨w1.heap.size, 0, none⟩ (.int .i64 1)) w1.heap.size (w1.heap.size + 1) (.slice (some ⟨w1.heap.size, 0, none⟩) 4 4) (outj.set 0 1)) := Z.hide (by have h_ := K.own_setAt' (k := 0) (x := 1) (by omega) HT3.out; rw [Nat.zero_add] at h_; exact h_)
                    have lx3 := X3.size
                    go_wp2_with fail
                    refine K.call (by with_reducible rfl) (by with_reducible rfl) (HSg _) ?_
                    rintro e w4 ⟨rfl, f4⟩
                    have HT4 := Z.hide (K.own.ext HNX.out f4)
                    obtain ⟨⟨y0, y1⟩, _, _⟩ := K.own_slot HT4.out (i := 0) (by rw [List.length_set]; omega)
                    have HNY : Hid (K.own (w4.setCell ⟨w1.heap.size, 0, none⟩ (.int .i64 y)) w1.heap.size (w1.heap.size + 1) (.slice (some ⟨w1.heap.size, 0, none⟩) 4 4) ((outj.set 0 1).set 0 y)) := Z.hide (by have h_ := K.own_setAt' (k := 0) (x := y) (by rw [List.length_set]; omega) HT4.out; rw [Nat.zero_add] at h_; exact h_)
                    have lx4 := f4.size
                    go_wp2
                    go_roundw
                    case rel => exact ⟨0 + 1, (outj.set 0 1).set 0 y, by omega, by go_num, by rw [List.length_set, List.length_set]; exact hlj, HNY, Z.hide ((((HXj.out.trans X3).setCell (by dsimp only; omega) _).trans f4).setCell (by dsimp only; omega) _), Z.hide ((((HFj.out.trans (K.Far.of_ext X3)).setCell (by dsimp only; omega) (by dsimp only; omega) _).trans (K.Far.of_ext f4)).setCell (by dsimp only; omega) (by dsimp only; omega) _), Z.hide HU1.out.symm⟩
                    case measure => first | (simp [intOf]; done) | (simp [intOf]; omega)
                · have hq : ¬ (c.toNat : Int) = 109 := fun h => hcb (UInt8.toNat_inj.1 (by have h2 : (c.toNat : Int) = ((Z.baseB 0).toNat : Int) := h.trans q0.symm; omega))
                  have hq' : ((c.toNat : Int) == 109) = false := by rw [beq_eq_false_iff_ne]; exact hq
                  have HU1 : Hid (Z.updS c (Z.rdUS t) out (0 + 1) = outj) := Z.hide (by rw [Z.updS, if_neg hcb, ← HU.out])
                  clear hcb
                  go_wp2_with fail
                  refine K.wp_region_x 16 [0, 0, 0, 1, 0, 0, 0, 0, 0, 0, 1, 0, 0, 0, 0, 0] [] (by kernel_rfl) (by kernel_rfl) ?_
                  simp only [List.take_succ_cons, List.take_zero, List.drop_succ_cons, List.drop_zero]
                  iterate 3
                    apply K.x_pure
                    · rfl
                    · rfl
                    · intro w'; go_simp; first | done | exact K.vint (IntWalk.i64_in _ (by omega)) | rfl | exact ⟨rfl, rfl⟩
                    simp only [Act.put, List.setIfInBounds_toArray, List.set]
                  apply K.x_held
                  · rfl
                  · rfl
                  · intro w' hx; have hc := hx.all.1.1; have hf := hx.all.1.2; have hc' := hx.all.2.1; have hf' := hx.all.2.2; go_simp; first | done | rfl | exact ⟨rfl, rfl⟩
                  simp only [Act.put, List.setIfInBounds_toArray, List.set]
                  iterate 6
                    apply K.x_pure
                    · rfl
                    · rfl
                    · intro w'; go_simp; first | done | exact K.vint (IntWalk.i64_in _ (by omega)) | rfl | exact ⟨rfl, rfl⟩
                    simp only [Act.put, List.setIfInBounds_toArray, List.set]
                  apply K.x_held
                  · rfl
                  · rfl
                  · intro w' hx; have hc := hx.all.1.1; have hf := hx.all.1.2; have hc' := hx.all.2.1; have hf' := hx.all.2.2; go_simp; first | done | rfl | exact ⟨rfl, rfl⟩
                  simp only [Act.put, List.setIfInBounds_toArray, List.set]
                  iterate 5
                    apply K.x_pure
                    · rfl
                    · rfl
                    · intro w'; go_simp; first | done | exact K.vint (IntWalk.i64_in _ (by omega)) | rfl | exact ⟨rfl, rfl⟩
                    simp only [Act.put, List.setIfInBounds_toArray, List.set]
                  apply K.x_done
                  intro w3 h_x
                  have hx3 := K.Ext.id h_x
                  clear h_x
                  obtain ⟨⟨hcw3, hfw3⟩, hc'w3, hf'w3⟩ := hx3.all
                  refine wpList_nil ?_
                  refine NoPanic.normal ?_
                  have X3 : K.Ext wr w3 := ((K.Ext.refl _).drew).trans hx3
                  go_wp2
                  go_roundw
                  case rel => exact ⟨0 + 1, outj, by omega, by go_num, hlj, Z.hide (K.own.ext HOj.out X3), Z.hide (HXj.out.trans X3), Z.hide (HFj.out.trans (K.Far.of_ext X3)), Z.hide HU1.out.symm⟩
                  case measure => first | (simp [intOf]; done) | (simp [intOf]; omega)
              · have q0 : ((Z.baseB 1).toNat : Int) = 103 := rfl
                have eb : (⟨#[109, 103, 115, 65]⟩ : ByteArray)[1]'(by decide) = Z.baseB 1 := rfl
                have HTd := Z.hide (K.own.drew HOj.out)
                by_cases hcb : c = Z.baseB 1
                · have hq : (c.toNat : Int) = 103 := by rw [hcb]; rfl
                  have hq' : ((c.toNat : Int) == 103) = true := by rw [hq]; rfl
                  by_cases ht : t = []
                  · have n1 : ¬ ((1 : Int) < (SP.size : Int)) := by rw [es, ht]; simp
                    have HU1 : Hid (Z.updS c (Z.rdUS t) out (1 + 1) = outj.set 1 1) := Z.hide (by rw [Z.updS, if_pos hcb, ← HU.out, ht]; rfl)
                    clear ht hcb
                    go_wp2_with fail
                    refine K.wp_region_x 16 [0, 0, 0, 1, 0, 0, 0, 0, 0, 0, 1, 0, 0, 0, 0, 0] [] (by kernel_rfl) (by kernel_rfl) ?_
                    simp only [List.take_succ_cons, List.take_zero, List.drop_succ_cons, List.drop_zero]
                    iterate 3
                      apply K.x_pure
                      · rfl
                      · rfl
                      · intro w'; go_simp; first | done | exact K.vint (IntWalk.i64_in _ (by omega)) | rfl | exact ⟨rfl, rfl⟩
                      simp only [Act.put, List.setIfInBounds_toArray, List.set]
                    apply K.x_held
                    · rfl
                    · rfl
                    · intro w' hx; have hc := hx.all.1.1; have hf := hx.all.1.2; have hc' := hx.all.2.1; have hf' := hx.all.2.2; go_simp; first | done | rfl | exact ⟨rfl, rfl⟩
                    simp only [Act.put, List.setIfInBounds_toArray, List.set]
                    iterate 6
                      apply K.x_pure
                      · rfl
                      · rfl
                      · intro w'; go_simp; first | done | exact K.vint (IntWalk.i64_in _ (by omega)) | rfl | exact ⟨rfl, rfl⟩
                      simp only [Act.put, List.setIfInBounds_toArray, List.set]
                    apply K.x_held
                    · rfl
                    · rfl
                    · intro w' hx; have hc := hx.all.1.1; have hf := hx.all.1.2; have hc' := hx.all.2.1; have hf' := hx.all.2.2; go_simp; first | done | rfl | exact ⟨rfl, rfl⟩
                    simp only [Act.put, List.setIfInBounds_toArray, List.set]
                    iterate 5
                      apply K.x_pure
                      · rfl
                      · rfl
                      · intro w'; go_simp; first | done | exact K.vint (IntWalk.i64_in _ (by omega)) | rfl | exact ⟨rfl, rfl⟩
                      simp only [Act.put, List.setIfInBounds_toArray, List.set]
                    apply K.x_done
                    intro w3 h_x
                    have hx3 := K.Ext.id h_x
                    clear h_x
                    obtain ⟨⟨hcw3, hfw3⟩, hc'w3, hf'w3⟩ := hx3.all
                    refine wpList_nil ?_
                    refine NoPanic.normal ?_
                    have X3 : K.Ext wr w3 := ((K.Ext.refl _).drew).trans hx3
                    have HT3 := Z.hide (K.own.ext HOj.out X3)
                    obtain ⟨⟨z0, z1⟩, _, _⟩ := K.own_slot HT3.out (i := 1) (by omega)
                    have hcw := X3.cell_of hcj
                    have HNX := Z.hide (K.own_setAt' (k := 1) (x := 1) (by omega) HT3.out)
                    have lx3 := X3.size
                    go_wp2
                    go_roundw
                    case rel => exact ⟨1 + 1, outj.set 1 1, by omega, by go_num, by rw [List.length_set]; exact hlj, Z.hide (by have h_ := HNX.out; rw [Nat.zero_add] at h_; exact h_), Z.hide ((HXj.out.trans X3).setCell (by dsimp only; omega) _), Z.hide ((HFj.out.trans (K.Far.of_ext X3)).setCell (by dsimp only; omega) (by dsimp only; omega) _), Z.hide HU1.out.symm⟩
                    case measure => first | (simp [intOf]; done) | (simp [intOf]; omega)
                  · have n1 : (1 : Int) < (SP.size : Int) := by have := List.length_pos_iff.2 ht; omega
                    have HU1 : Hid (Z.updS c (Z.rdUS t) out (1 + 1) = (outj.set 1 1).set 1 y) := Z.hide (by rw [Z.updS, if_pos hcb, ← HU.out, List.set_set]; unfold Z.rdUS; rw [if_neg ht, HN.out])
                    clear ht hcb
                    go_wp2_with fail
                    refine K.wp_region_x 16 [0, 0, 0, 1, 0, 0, 0, 0, 0, 0, 1, 0, 0, 0, 0, 0] [] (by kernel_rfl) (by kernel_rfl) ?_
                    simp only [List.take_succ_cons, List.take_zero, List.drop_succ_cons, List.drop_zero]
                    iterate 3
                      apply K.x_pure
                      · rfl
                      · rfl
                      · intro w'; go_simp; first | done | exact K.vint (IntWalk.i64_in _ (by omega)) | rfl | exact ⟨rfl, rfl⟩
                      simp only [Act.put, List.setIfInBounds_toArray, List.set]
                    apply K.x_held
                    · rfl
                    · rfl
                    · intro w' hx; have hc := hx.all.1.1; have hf := hx.all.1.2; have hc' := hx.all.2.1; have hf' := hx.all.2.2; go_simp; first | done | rfl | exact ⟨rfl, rfl⟩
                    simp only [Act.put, List.setIfInBounds_toArray, List.set]
                    iterate 6
                      apply K.x_pure
                      · rfl
                      · rfl
                      · intro w'; go_simp; first | done | exact K.vint (IntWalk.i64_in _ (by omega)) | rfl | exact ⟨rfl, rfl⟩
                      simp only [Act.put, List.setIfInBounds_toArray, List.set]
                    apply K.x_held
                    · rfl
                    · rfl
                    · intro w' hx; have hc := hx.all.1.1; have hf := hx.all.1.2; have hc' := hx.all.2.1; have hf' := hx.all.2.2; go_simp; first | done | rfl | exact ⟨rfl, rfl⟩
                    simp only [Act.put, List.setIfInBounds_toArray, List.set]
                    iterate 5
                      apply K.x_pure
                      · rfl
                      · rfl
                      · intro w'; go_simp; first | done | exact K.vint (IntWalk.i64_in _ (by omega)) | rfl | exact ⟨rfl, rfl⟩
                      simp only [Act.put, List.setIfInBounds_toArray, List.set]
                    apply K.x_done
                    intro w3 h_x
                    have hx3 := K.Ext.id h_x
                    clear h_x
                    obtain ⟨⟨hcw3, hfw3⟩, hc'w3, hf'w3⟩ := hx3.all
                    refine wpList_nil ?_
                    refine NoPanic.normal ?_
                    have X3 : K.Ext wr w3 := ((K.Ext.refl _).drew).trans hx3
                    have HT3 := Z.hide (K.own.ext HOj.out X3)
                    obtain ⟨⟨z0, z1⟩, _, _⟩ := K.own_slot HT3.out (i := 1) (by omega)
                    have hcw := X3.cell_of hcj
                    have HNX : Hid (K.own (w3.setCell ⟨w1.heap.size, 1, none⟩ (.int .i64 1)) w1.heap.size (w1.heap.size + 1) (.slice (some ⟨w1.heap.size, 0, none⟩) 4 4) (outj.set 1 1)) := Z.hide (by have h_ := K.own_setAt' (k := 1) (x := 1) (by omega) HT3.out; rw [Nat.zero_add] at h_; exact h_)
                    have lx3 := X3.size
                    go_wp2_with fail
                    refine K.call (by with_reducible rfl) (by with_reducible rfl) (HSg _) ?_
                    rintro e w4 ⟨rfl, f4⟩
                    have HT4 := Z.hide (K.own.ext HNX.out f4)
                    obtain ⟨⟨y0, y1⟩, _, _⟩ := K.own_slot HT4.out (i := 1) (by rw [List.length_set]; omega)
                    have HNY : Hid (K.own (w4.setCell ⟨w1.heap.size, 1, none⟩ (.int .i64 y)) w1.heap.size (w1.heap.size + 1) (.slice (some ⟨w1.heap.size, 0, none⟩) 4 4) ((outj.set 1 1).set 1 y)) := Z.hide (by have h_ := K.own_setAt' (k := 1) (x := y) (by rw [List.length_set]; omega) HT4.out; rw [Nat.zero_add] at h_; exact h_)
                    have lx4 := f4.size
                    go_wp2
                    go_roundw
                    case rel => exact ⟨1 + 1, (outj.set 1 1).set 1 y, by omega, by go_num, by rw [List.length_set, List.length_set]; exact hlj, HNY, Z.hide ((((HXj.out.trans X3).setCell (by dsimp only; omega) _).trans f4).setCell (by dsimp only; omega) _), Z.hide ((((HFj.out.trans (K.Far.of_ext X3)).setCell (by dsimp only; omega) (by dsimp only; omega) _).trans (K.Far.of_ext f4)).setCell (by dsimp only; omega) (by dsimp only; omega) _), Z.hide HU1.out.symm⟩
                    case measure => first | (simp [intOf]; done) | (simp [intOf]; omega)
                · have hq : ¬ (c.toNat : Int) = 103 := fun h => hcb (UInt8.toNat_inj.1 (by have h2 : (c.toNat : Int) = ((Z.baseB 1).toNat : Int) := h.trans q0.symm; omega))
                  have hq' : ((c.toNat : Int) == 103) = false := by rw [beq_eq_false_iff_ne]; exact hq
                  have HU1 : Hid (Z.updS c (Z.rdUS t) out (1 + 1) = outj) := Z.hide (by rw [Z.updS, if_neg hcb, ← HU.out])
                  clear hcb
                  go_wp2_with fail
                  refine K.wp_region_x 16 [0, 0, 0, 1, 0, 0, 0, 0, 0, 0, 1, 0, 0, 0, 0, 0] [] (by kernel_rfl) (by kernel_rfl) ?_
                  simp only [List.take_succ_cons, List.take_zero, List.drop_succ_cons, List.drop_zero]
                  iterate 3
                    apply K.x_pure
                    · rfl
                    · rfl
                    · intro w'; go_simp; first | done | exact K.vint (IntWalk.i64_in _ (by omega)) | rfl | exact ⟨rfl, rfl⟩
                    simp only [Act.put, List.setIfInBounds_toArray, List.set]
                  apply K.x_held
                  · rfl
                  · rfl
                  · intro w' hx; have hc := hx.all.1.1; have hf := hx.all.1.2; have hc' := hx.all.2.1; have hf' := hx.all.2.2; go_simp; first | done | rfl | exact ⟨rfl, rfl⟩
                  simp only [Act.put, List.setIfInBounds_toArray, List.set]
                  iterate 6
                    apply K.x_pure
                    · rfl
                    · rfl
                    · intro w'; go_simp; first | done | exact K.vint (IntWalk.i64_in _ (by omega)) | rfl | exact ⟨rfl, rfl⟩
                    simp only [Act.put, List.setIfInBounds_toArray, List.set]
                  apply K.x_held
                  · rfl
                  · rfl
                  · intro w' hx; have hc := hx.all.1.1; have hf := hx.all.1.2; have hc' := hx.all.2.1; have hf' := hx.all.2.2; go_simp; first | done | rfl | exact ⟨rfl, rfl⟩
                  simp only [Act.put, List.setIfInBounds_toArray, List.set]
                  iterate 5
                    apply K.x_pure
                    · rfl
                    · rfl
                    · intro w'; go_simp; first | done | exact K.vint (IntWalk.i64_in _ (by omega)) | rfl | exact ⟨rfl, rfl⟩
                    simp only [Act.put, List.setIfInBounds_toArray, List.set]
                  apply K.x_done
                  intro w3 h_x
                  have hx3 := K.Ext.id h_x
                  clear h_x
                  obtain ⟨⟨hcw3, hfw3⟩, hc'w3, hf'w3⟩ := hx3.all
                  refine wpList_nil ?_
                  refine NoPanic.normal ?_
                  have X3 : K.Ext wr w3 := ((K.Ext.refl _).drew).trans hx3
                  go_wp2
                  go_roundw
                  case rel => exact ⟨1 + 1, outj, by omega, by go_num, hlj, Z.hide (K.own.ext HOj.out X3), Z.hide (HXj.out.trans X3), Z.hide (HFj.out.trans (K.Far.of_ext X3)), Z.hide HU1.out.symm⟩
                  case measure => first | (simp [intOf]; done) | (simp [intOf]; omega)
              · have q0 : ((Z.baseB 2).toNat : Int) = 115 := rfl
                have eb : (⟨#[109, 103, 115, 65]⟩ : ByteArray)[2]'(by decide) = Z.baseB 2 := rfl
                have HTd := Z.hide (K.own.drew HOj.out)
                by_cases hcb : c = Z.baseB 2
                · have hq : (c.toNat : Int) = 115 := by rw [hcb]; rfl
                  have hq' : ((c.toNat : Int) == 115) = true := by rw [hq]; rfl
                  by_cases ht : t = []
                  · have n1 : ¬ ((1 : Int) < (SP.size : Int)) := by rw [es, ht]; simp
                    have HU1 : Hid (Z.updS c (Z.rdUS t) out (2 + 1) = outj.set 2 1) := Z.hide (by rw [Z.updS, if_pos hcb, ← HU.out, ht]; rfl)
                    clear ht hcb
                    go_wp2_with fail
                    refine K.wp_region_x 16 [0, 0, 0, 1, 0, 0, 0, 0, 0, 0, 1, 0, 0, 0, 0, 0] [] (by kernel_rfl) (by kernel_rfl) ?_
                    simp only [List.take_succ_cons, List.take_zero, List.drop_succ_cons, List.drop_zero]
                    iterate 3
                      apply K.x_pure
                      · rfl
                      · rfl
                      · intro w'; go_simp; first | done | exact K.vint (IntWalk.i64_in _ (by omega)) | rfl | exact ⟨rfl, rfl⟩
                      simp only [Act.put, List.setIfInBounds_toArray, List.set]
                    apply K.x_held
                    · rfl
                    · rfl
                    · intro w' hx; have hc := hx.all.1.1; have hf := hx.all.1.2; have hc' := hx.all.2.1; have hf' := hx.all.2.2; go_simp; first | done | rfl | exact ⟨rfl, rfl⟩
                    simp only [Act.put, List.setIfInBounds_toArray, List.set]
                    iterate 6
                      apply K.x_pure
                      · rfl
                      · rfl
                      · intro w'; go_simp; first | done | exact K.vint (IntWalk.i64_in _ (by omega)) | rfl | exact ⟨rfl, rfl⟩
                      simp only [Act.put, List.setIfInBounds_toArray, List.set]
                    apply K.x_held
                    · rfl
                    · rfl
                    · intro w' hx; have hc := hx.all.1.1; have hf := hx.all.1.2; have hc' := hx.all.2.1; have hf' := hx.all.2.2; go_simp; first | done | rfl | exact ⟨rfl, rfl⟩
                    simp only [Act.put, List.setIfInBounds_toArray, List.set]
                    iterate 5
                      apply K.x_pure
                      · rfl
                      · rfl
                      · intro w'; go_simp; first | done | exact K.vint (IntWalk.i64_in _ (by omega)) | rfl | exact ⟨rfl, rfl⟩
                      simp only [Act.put, List.setIfInBounds_toArray, List.set]
                    apply K.x_done
                    intro w3 h_x
                    have hx3 := K.Ext.id h_x
                    clear h_x
                    obtain ⟨⟨hcw3, hfw3⟩, hc'w3, hf'w3⟩ := hx3.all
                    refine wpList_nil ?_
                    refine NoPanic.normal ?_
                    have X3 : K.Ext wr w3 := ((K.Ext.refl _).drew).trans hx3
                    have HT3 := Z.hide (K.own.ext HOj.out X3)
                    obtain ⟨⟨z0, z1⟩, _, _⟩ := K.own_slot HT3.out (i := 2) (by omega)
                    have hcw := X3.cell_of hcj
                    have HNX := Z.hide (K.own_setAt' (k := 2) (x := 1) (by omega) HT3.out)
                    have lx3 := X3.size
                    go_wp2
                    go_roundw
                    case rel => exact ⟨2 + 1, outj.set 2 1, by omega, by go_num, by rw [List.length_set]; exact hlj, Z.hide (by have h_ := HNX.out; rw [Nat.zero_add] at h_; exact h_), Z.hide ((HXj.out.trans X3).setCell (by dsimp only; omega) _), Z.hide ((HFj.out.trans (K.Far.of_ext X3)).setCell (by dsimp only; omega) (by dsimp only; omega) _), Z.hide HU1.out.symm⟩
                    case measure => first | (simp [intOf]; done) | (simp [intOf]; omega)
                  · have n1 : (1 : Int) < (SP.size : Int) := by have := List.length_pos_iff.2 ht; omega
                    have HU1 : Hid (Z.updS c (Z.rdUS t) out (2 + 1) = (outj.set 2 1).set 2 y) := Z.hide (by rw [Z.updS, if_pos hcb, ← HU.out, List.set_set]; unfold Z.rdUS; rw [if_neg ht, HN.out])
                    clear ht hcb
                    go_wp2_with fail
                    refine K.wp_region_x 16 [0, 0, 0, 1, 0, 0, 0, 0, 0, 0, 1, 0, 0, 0, 0, 0] [] (by kernel_rfl) (by kernel_rfl) ?_
                    simp only [List.take_succ_cons, List.take_zero, List.drop_succ_cons, List.drop_zero]
                    iterate 3
                      apply K.x_pure
                      · rfl
                      · rfl
                      · intro w'; go_simp; first | done | exact K.vint (IntWalk.i64_in _ (by omega)) | rfl | exact ⟨rfl, rfl⟩
                      simp only [Act.put, List.setIfInBounds_toArray, List.set]
                    apply K.x_held
                    · rfl
                    · rfl
                    · intro w' hx; have hc := hx.all.1.1; have hf := hx.all.1.2; have hc' := hx.all.2.1; have hf' := hx.all.2.2; go_simp; first | done | rfl | exact ⟨rfl, rfl⟩
                    simp only [Act.put, List.setIfInBounds_toArray, List.set]
                    iterate 6
                      apply K.x_pure
                      · rfl
                      · rfl
                      · intro w'; go_simp; first | done | exact K.vint (IntWalk.i64_in _ (by omega)) | rfl | exact ⟨rfl, rfl⟩
                      simp only [Act.put, List.setIfInBounds_toArray, List.set]
                    apply K.x_held
                    · rfl
                    · rfl
                    · intro w' hx; have hc := hx.all.1.1; have hf := hx.all.1.2; have hc' := hx.all.2.1; have hf' := hx.all.2.2; go_simp; first | done | rfl | exact ⟨rfl, rfl⟩
                    simp only [Act.put, List.setIfInBounds_toArray, List.set]
                    iterate 5
                      apply K.x_pure
                      · rfl
                      · rfl
                      · intro w'; go_simp; first | done | exact K.vint (IntWalk.i64_in _ (by omega)) | rfl | exact ⟨rfl, rfl⟩
                      simp only [Act.put, List.setIfInBounds_toArray, List.set]
                    apply K.x_done
                    intro w3 h_x
                    have hx3 := K.Ext.id h_x
                    clear h_x
                    obtain ⟨⟨hcw3, hfw3⟩, hc'w3, hf'w3⟩ := hx3.all
                    refine wpList_nil ?_
                    refine NoPanic.normal ?_
                    have X3 : K.Ext wr w3 := ((K.Ext.refl _).drew).trans hx3
                    have HT3 := Z.hide (K.own.ext HOj.out X3)
                    obtain ⟨⟨z0, z1⟩, _, _⟩ := K.own_slot HT3.out (i := 2) (by omega)
                    have hcw := X3.cell_of hcj
                    have HNX : Hid (K.own (w3.setCell ⟨w1.heap.size, 2, none⟩ (.int .i64 1)) w1.heap.size (w1.heap.size + 1) (.slice (some ⟨w1.heap.size, 0, none⟩) 4 4) (outj.set 2 1)) := Z.hide (by have h_ := K.own_setAt' (k := 2) (x := 1) (by omega) HT3.out; rw [Nat.zero_add] at h_; exact h_)
                    have lx3 := X3.size
                    go_wp2_with fail
                    refine K.call (by with_reducible rfl) (by with_reducible rfl) (HSg _) ?_
                    rintro e w4 ⟨rfl, f4⟩
                    have HT4 := Z.hide (K.own.ext HNX.out f4)
                    obtain ⟨⟨y0, y1⟩, _, _⟩ := K.own_slot HT4.out (i := 2) (by rw [List.length_set]; omega)
                    have HNY : Hid (K.own (w4.setCell ⟨w1.heap.size, 2, none⟩ (.int .i64 y)) w1.heap.size (w1.heap.size + 1) (.slice (some ⟨w1.heap.size, 0, none⟩) 4 4) ((outj.set 2 1).set 2 y)) := Z.hide (by have h_ := K.own_setAt' (k := 2) (x := y) (by rw [List.length_set]; omega) HT4.out; rw [Nat.zero_add] at h_; exact h_)
                    have lx4 := f4.size
                    go_wp2
                    go_roundw
                    case rel => exact ⟨2 + 1, (outj.set 2 1).set 2 y, by omega, by go_num, by rw [List.length_set, List.length_set]; exact hlj, HNY, Z.hide ((((HXj.out.trans X3).setCell (by dsimp only; omega) _).trans f4).setCell (by dsimp only; omega) _), Z.hide ((((HFj.out.trans (K.Far.of_ext X3)).setCell (by dsimp only; omega) (by dsimp only; omega) _).trans (K.Far.of_ext f4)).setCell (by dsimp only; omega) (by dsimp only; omega) _), Z.hide HU1.out.symm⟩
                    case measure => first | (simp [intOf]; done) | (simp [intOf]; omega)
                · have hq : ¬ (c.toNat : Int) = 115 := fun h => hcb (UInt8.toNat_inj.1 (by have h2 : (c.toNat : Int) = ((Z.baseB 2).toNat : Int) := h.trans q0.symm; omega))
                  have hq' : ((c.toNat : Int) == 115) = false := by rw [beq_eq_false_iff_ne]; exact hq
                  have HU1 : Hid (Z.updS c (Z.rdUS t) out (2 + 1) = outj) := Z.hide (by rw [Z.updS, if_neg hcb, ← HU.out])
                  clear hcb
                  go_wp2_with fail
                  refine K.wp_region_x 16 [0, 0, 0, 1, 0, 0, 0, 0, 0, 0, 1, 0, 0, 0, 0, 0] [] (by kernel_rfl) (by kernel_rfl) ?_
                  simp only [List.take_succ_cons, List.take_zero, List.drop_succ_cons, List.drop_zero]
                  iterate 3
                    apply K.x_pure
                    · rfl
                    · rfl
                    · intro w'; go_simp; first | done | exact K.vint (IntWalk.i64_in _ (by omega)) | rfl | exact ⟨rfl, rfl⟩
                    simp only [Act.put, List.setIfInBounds_toArray, List.set]
                  apply K.x_held
                  · rfl
                  · rfl
                  · intro w' hx; have hc := hx.all.1.1; have hf := hx.all.1.2; have hc' := hx.all.2.1; have hf' := hx.all.2.2; go_simp; first | done | rfl | exact ⟨rfl, rfl⟩
                  simp only [Act.put, List.setIfInBounds_toArray, List.set]
                  iterate 6
                    apply K.x_pure
                    · rfl
                    · rfl
                    · intro w'; go_simp; first | done | exact K.vint (IntWalk.i64_in _ (by omega)) | rfl | exact ⟨rfl, rfl⟩
                    simp only [Act.put, List.setIfInBounds_toArray, List.set]
                  apply K.x_held
                  · rfl
                  · rfl
                  · intro w' hx; have hc := hx.all.1.1; have hf := hx.all.1.2; have hc' := hx.all.2.1; have hf' := hx.all.2.2; go_simp; first | done | rfl | exact ⟨rfl, rfl⟩
                  simp only [Act.put, List.setIfInBounds_toArray, List.set]
                  iterate 5
                    apply K.x_pure
                    · rfl
                    · rfl
                    · intro w'; go_simp; first | done | exact K.vint (IntWalk.i64_in _ (by omega)) | rfl | exact ⟨rfl, rfl⟩
                    simp only [Act.put, List.setIfInBounds_toArray, List.set]
                  apply K.x_done
                  intro w3 h_x
                  have hx3 := K.Ext.id h_x
                  clear h_x
                  obtain ⟨⟨hcw3, hfw3⟩, hc'w3, hf'w3⟩ := hx3.all
                  refine wpList_nil ?_
                  refine NoPanic.normal ?_
                  have X3 : K.Ext wr w3 := ((K.Ext.refl _).drew).trans hx3
                  go_wp2
                  go_roundw
                  case rel => exact ⟨2 + 1, outj, by omega, by go_num, hlj, Z.hide (K.own.ext HOj.out X3), Z.hide (HXj.out.trans X3), Z.hide (HFj.out.trans (K.Far.of_ext X3)), Z.hide HU1.out.symm⟩
                  case measure => first | (simp [intOf]; done) | (simp [intOf]; omega)
              · have q0 : ((Z.baseB 3).toNat : Int) = 65 := rfl
                have eb : (⟨#[109, 103, 115, 65]⟩ : ByteArray)[3]'(by decide) = Z.baseB 3 := rfl
                have HTd := Z.hide (K.own.drew HOj.out)
                by_cases hcb : c = Z.baseB 3
                · have hq : (c.toNat : Int) = 65 := by rw [hcb]; rfl
                  have hq' : ((c.toNat : Int) == 65) = true := by rw [hq]; rfl
                  by_cases ht : t = []
                  · have n1 : ¬ ((1 : Int) < (SP.size : Int)) := by rw [es, ht]; simp
                    have HU1 : Hid (Z.updS c (Z.rdUS t) out (3 + 1) = outj.set 3 1) := Z.hide (by rw [Z.updS, if_pos hcb, ← HU.out, ht]; rfl)
                    clear ht hcb
                    go_wp2_with fail
                    refine K.wp_region_x 16 [0, 0, 0, 1, 0, 0, 0, 0, 0, 0, 1, 0, 0, 0, 0, 0] [] (by kernel_rfl) (by kernel_rfl) ?_
                    simp only [List.take_succ_cons, List.take_zero, List.drop_succ_cons, List.drop_zero]
                    iterate 3
                      apply K.x_pure
                      · rfl
                      · rfl
                      · intro w'; go_simp; first | done | exact K.vint (IntWalk.i64_in _ (by omega)) | rfl | exact ⟨rfl, rfl⟩
                      simp only [Act.put, List.setIfInBounds_toArray, List.set]
                    apply K.x_held
                    · rfl
                    · rfl
                    · intro w' hx; have hc := hx.all.1.1; have hf := hx.all.1.2; have hc' := hx.all.2.1; have hf' := hx.all.2.2; go_simp; first | done | rfl | exact ⟨rfl, rfl⟩
                    simp only [Act.put, List.setIfInBounds_toArray, List.set]
                    iterate 6
                      apply K.x_pure
                      · rfl
                      · rfl
                      · intro w'; go_simp; first | done | exact K.vint (IntWalk.i64_in _ (by omega)) | rfl | exact ⟨rfl, rfl⟩
                      simp only [Act.put, List.setIfInBounds_toArray, List.set]
                    apply K.x_held
                    · rfl
                    · rfl
                    · intro w' hx; have hc := hx.all.1.1; have hf := hx.all.1.2; have hc' := hx.all.2.1; have hf' := hx.all.2.2; go_simp; first | done | rfl | exact ⟨rfl, rfl⟩
                    simp only [Act.put, List.setIfInBounds_toArray, List.set]
                    iterate 5
                      apply K.x_pure
                      · rfl
                      · rfl
                      · intro w'; go_simp; first | done | exact K.vint (IntWalk.i64_in _ (by omega)) | rfl | exact ⟨rfl, rfl⟩
                      simp only [Act.put, List.setIfInBounds_toArray, List.set]
                    apply K.x_done
                    intro w3 h_x
                    have hx3 := K.Ext.id h_x
                    clear h_x
                    obtain ⟨⟨hcw3, hfw3⟩, hc'w3, hf'w3⟩ := hx3.all
                    refine wpList_nil ?_
                    refine NoPanic.normal ?_
                    have X3 : K.Ext wr w3 := ((K.Ext.refl _).drew).trans hx3
                    have HT3 := Z.hide (K.own.ext HOj.out X3)
                    obtain ⟨⟨z0, z1⟩, _, _⟩ := K.own_slot HT3.out (i := 3) (by omega)
                    have hcw := X3.cell_of hcj
                    have HNX := Z.hide (K.own_setAt' (k := 3) (x := 1) (by omega) HT3.out)
                    have lx3 := X3.size
                    go_wp2
                    go_roundw
                    case rel => exact ⟨3 + 1, outj.set 3 1, by omega, by go_num, by rw [List.length_set]; exact hlj, Z.hide (by have h_ := HNX.out; rw [Nat.zero_add] at h_; exact h_), Z.hide ((HXj.out.trans X3).setCell (by dsimp only; omega) _), Z.hide ((HFj.out.trans (K.Far.of_ext X3)).setCell (by dsimp only; omega) (by dsimp only; omega) _), Z.hide HU1.out.symm⟩
                    case measure => first | (simp [intOf]; done) | (simp [intOf]; omega)
                  · have n1 : (1 : Int) < (SP.size : Int) := by have := List.length_pos_iff.2 ht; omega
                    have HU1 : Hid (Z.updS c (Z.rdUS t) out (3 + 1) = (outj.set 3 1).set 3 y) := Z.hide (by rw [Z.updS, if_pos hcb, ← HU.out, List.set_set]; unfold Z.rdUS; rw [if_neg ht, HN.out])
                    clear ht hcb
                    go_wp2_with fail
                    refine K.wp_region_x 16 [0, 0, 0, 1, 0, 0, 0, 0, 0, 0, 1, 0, 0, 0, 0, 0] [] (by kernel_rfl) (by kernel_rfl) ?_
                    simp only [List.take_succ_cons, List.take_zero, List.drop_succ_cons, List.drop_zero]
                    iterate 3
                      apply K.x_pure
                      · rfl
                      · rfl
                      · intro w'; go_simp; first | done | exact K.vint (IntWalk.i64_in _ (by omega)) | rfl | exact ⟨rfl, rfl⟩
                      simp only [Act.put, List.setIfInBounds_toArray, List.set]
                    apply K.x_held
                    · rfl
                    · rfl
                    · intro w' hx; have hc := hx.all.1.1; have hf := hx.all.1.2; have hc' := hx.all.2.1; have hf' := hx.all.2.2; go_simp; first | done | rfl | exact ⟨rfl, rfl⟩
                    simp only [Act.put, List.setIfInBounds_toArray, List.set]
                    iterate 6
                      apply K.x_pure
                      · rfl
                      · rfl
                      · intro w'; go_simp; first | done | exact K.vint (IntWalk.i64_in _ (by omega)) | rfl | exact ⟨rfl, rfl⟩
                      simp only [Act.put, List.setIfInBounds_toArray, List.set]
                    apply K.x_held
                    · rfl
                    · rfl
                    · intro w' hx; have hc := hx.all.1.1; have hf := hx.all.1.2; have hc' := hx.all.2.1; have hf' := hx.all.2.2; go_simp; first | done | rfl | exact ⟨rfl, rfl⟩
                    simp only [Act.put, List.setIfInBounds_toArray, List.set]
                    iterate 5
                      apply K.x_pure
                      · rfl
                      · rfl
                      · intro w'; go_simp; first | done | exact K.vint (IntWalk.i64_in _ (by omega)) | rfl | exact ⟨rfl, rfl⟩
                      simp only [Act.put, List.setIfInBounds_toArray, List.set]
                    apply K.x_done
                    intro w3 h_x
                    have hx3 := K.Ext.id h_x
                    clear h_x
                    obtain ⟨⟨hcw3, hfw3⟩, hc'w3, hf'w3⟩ := hx3.all
                    refine wpList_nil ?_
                    refine NoPanic.normal ?_
                    have X3 : K.Ext wr w3 := ((K.Ext.refl _).drew).trans hx3
                    have HT3 := Z.hide (K.own.ext HOj.out X3)
                    obtain ⟨⟨z0, z1⟩, _, _⟩ := K.own_slot HT3.out (i := 3) (by omega)
                    have hcw := X3.cell_of hcj
                    have HNX : Hid (K.own (w3.setCell ⟨w1.heap.size, 3, none⟩ (.int .i64 1)) w1.heap.size (w1.heap.size + 1) (.slice (some ⟨w1.heap.size, 0, none⟩) 4 4) (outj.set 3 1)) := Z.hide (by have h_ := K.own_setAt' (k := 3) (x := 1) (by omega) HT3.out; rw [Nat.zero_add] at h_; exact h_)
                    have lx3 := X3.size
                    go_wp2_with fail
                    refine K.call (by with_reducible rfl) (by with_reducible rfl) (HSg _) ?_
                    rintro e w4 ⟨rfl, f4⟩
                    have HT4 := Z.hide (K.own.ext HNX.out f4)
                    obtain ⟨⟨y0, y1⟩, _, _⟩ := K.own_slot HT4.out (i := 3) (by rw [List.length_set]; omega)
                    have HNY : Hid (K.own (w4.setCell ⟨w1.heap.size, 3, none⟩ (.int .i64 y)) w1.heap.size (w1.heap.size + 1) (.slice (some ⟨w1.heap.size, 0, none⟩) 4 4) ((outj.set 3 1).set 3 y)) := Z.hide (by have h_ := K.own_setAt' (k := 3) (x := y) (by rw [List.length_set]; omega) HT4.out; rw [Nat.zero_add] at h_; exact h_)
                    have lx4 := f4.size
                    go_wp2
                    go_roundw
                    case rel => exact ⟨3 + 1, (outj.set 3 1).set 3 y, by omega, by go_num, by rw [List.length_set, List.length_set]; exact hlj, HNY, Z.hide ((((HXj.out.trans X3).setCell (by dsimp only; omega) _).trans f4).setCell (by dsimp only; omega) _), Z.hide ((((HFj.out.trans (K.Far.of_ext X3)).setCell (by dsimp only; omega) (by dsimp only; omega) _).trans (K.Far.of_ext f4)).setCell (by dsimp only; omega) (by dsimp only; omega) _), Z.hide HU1.out.symm⟩
                    case measure => first | (simp [intOf]; done) | (simp [intOf]; omega)
                · have hq : ¬ (c.toNat : Int) = 65 := fun h => hcb (UInt8.toNat_inj.1 (by have h2 : (c.toNat : Int) = ((Z.baseB 3).toNat : Int) := h.trans q0.symm; omega))
                  have hq' : ((c.toNat : Int) == 65) = false := by rw [beq_eq_false_iff_ne]; exact hq
                  have HU1 : Hid (Z.updS c (Z.rdUS t) out (3 + 1) = outj) := Z.hide (by rw [Z.updS, if_neg hcb, ← HU.out])
                  clear hcb
                  go_wp2_with fail
                  refine K.wp_region_x 16 [0, 0, 0, 1, 0, 0, 0, 0, 0, 0, 1, 0, 0, 0, 0, 0] [] (by kernel_rfl) (by kernel_rfl) ?_
                  simp only [List.take_succ_cons, List.take_zero, List.drop_succ_cons, List.drop_zero]
                  iterate 3
                    apply K.x_pure
                    · rfl
                    · rfl
                    · intro w'; go_simp; first | done | exact K.vint (IntWalk.i64_in _ (by omega)) | rfl | exact ⟨rfl, rfl⟩
                    simp only [Act.put, List.setIfInBounds_toArray, List.set]
                  apply K.x_held
                  · rfl
                  · rfl
                  · intro w' hx; have hc := hx.all.1.1; have hf := hx.all.1.2; have hc' := hx.all.2.1; have hf' := hx.all.2.2; go_simp; first | done | rfl | exact ⟨rfl, rfl⟩
                  simp only [Act.put, List.setIfInBounds_toArray, List.set]
                  iterate 6
                    apply K.x_pure
                    · rfl
                    · rfl
                    · intro w'; go_simp; first | done | exact K.vint (IntWalk.i64_in _ (by omega)) | rfl | exact ⟨rfl, rfl⟩
                    simp only [Act.put, List.setIfInBounds_toArray, List.set]
                  apply K.x_held
                  · rfl
                  · rfl
                  · intro w' hx; have hc := hx.all.1.1; have hf := hx.all.1.2; have hc' := hx.all.2.1; have hf' := hx.all.2.2; go_simp; first | done | rfl | exact ⟨rfl, rfl⟩
                  simp only [Act.put, List.setIfInBounds_toArray, List.set]
                  iterate 5
                    apply K.x_pure
                    · rfl
                    · rfl
                    · intro w'; go_simp; first | done | exact K.vint (IntWalk.i64_in _ (by omega)) | rfl | exact ⟨rfl, rfl⟩
                    simp only [Act.put, List.setIfInBounds_toArray, List.set]
                  apply K.x_done
                  intro w3 h_x
                  have hx3 := K.Ext.id h_x
                  clear h_x
                  obtain ⟨⟨hcw3, hfw3⟩, hc'w3, hf'w3⟩ := hx3.all
                  refine wpList_nil ?_
                  refine NoPanic.normal ?_
                  have X3 : K.Ext wr w3 := ((K.Ext.refl _).drew).trans hx3
                  go_wp2
                  go_roundw
                  case rel => exact ⟨3 + 1, outj, by omega, by go_num, hlj, Z.hide (K.own.ext HOj.out X3), Z.hide (HXj.out.trans X3), Z.hide (HFj.out.trans (K.Far.of_ext X3)), Z.hide HU1.out.symm⟩
                  case measure => first | (simp [intOf]; done) | (simp [intOf]; omega)
            · obtain rfl : j = 4 := by omega
              go_wp2
              go_roundw
              case rel => exact ⟨k + 1, outj, by omega, by go_num, hlj, HOj, HXj, HFj, Z.hide (by rw [HU.out]; exact HEnd.out)⟩
              case measure => first | (simp [intOf]; done) | (simp [intOf]; omega)
      · obtain rfl : k = m := by omega
        have HI : Hid (Z.RuI s ps ps.length out) := Z.hide (by rw [← HM.out]; exact HI.out)
        have HOW := HOr
        have HIU := spec_IsUnit out _ _ _ wr (by omega) (K.own.ints HOW.out)
        try rw [hlen] at HIU
        have lW := (HX.out).size
        cases hf : Z.isUnit out
        · have HR : Hid (Z.UnR s [] false) := Z.hide (Z.RuI.none HI.out (.inl hf))
          rw [hf] at HIU
          go_wp2_with fail
          refine K.call (by with_reducible rfl) (by with_reducible rfl) HIU ?_
          rintro e _ ⟨rfl, rfl⟩
          go_wp2
          refine bodyPost_ret (v := .tuple #[.slice none 0 0, .int .i64 6]) (by unfold results; rw [Tryz.results11]; go_simp) rfl ⟨⟨[], false, _, rfl, HR.out, K.own_nil _ _ _⟩, ?_⟩
          exact HX.out
        · have HV := Z.hide (Z.unit_parts hf)
          have HUT := l19Text_any out wr HV.out.1 HV.out.2 (K.own.ints HOW.out)
          rw [hf] at HIU
          try rw [hlen] at HUT
          obtain ⟨D, hD⟩ : ∃ D, D = Z.unitText out := ⟨_, rfl⟩
          have HD := Z.hide hD
          have HVV := Z.hide hf
          rw [← hD] at HUT
          clear hD hf
          have hbq := K.str_beq D s
          go_wp2_with fail
          refine K.call (by with_reducible rfl) (by with_reducible rfl) HIU ?_
          rintro e _ ⟨rfl, rfl⟩
          go_wp2_with fail
          refine K.call (by with_reducible rfl) (by with_reducible rfl) HUT ?_
          rintro e w9 ⟨rfl, f9⟩
          by_cases heq : D = s
          · have HR : Hid (Z.UnR s out true) := Z.hide (Z.RuI.done HI.out HVV.out (by rw [← HD.out]; exact heq))
            rw [decide_eq_true heq] at hbq
            clear heq
            go_wp2
            refine bodyPost_ret (v := .tuple #[.slice (some ⟨w1.heap.size, 0, none⟩) 4 4, .int .i64 0]) (by unfold results; rw [Tryz.results11]; go_simp) rfl ⟨⟨out, true, _, rfl, HR.out, ?_⟩, ?_⟩
            · refine K.own.mono (lo := w1.heap.size) (hi := w1.heap.size + 1) ?_ (by omega) (by have := f9.size; have := LB.out; omega)
              have h_ := K.own.ext HOW.out f9
              exact h_
            · exact K.Ext.trans (HX.out) f9
          · have HR : Hid (Z.UnR s [] false) := Z.hide (Z.RuI.none HI.out (.inr (by rw [← HD.out]; exact heq)))
            rw [decide_eq_false heq] at hbq
            clear heq
            go_wp2
            refine bodyPost_ret (v := .tuple #[.slice none 0 0, .int .i64 6]) (by unfold results; rw [Tryz.results11]; go_simp) rfl ⟨⟨[], false, _, rfl, HR.out, K.own_nil _ _ _⟩, ?_⟩
            exact K.Ext.trans (HX.out) f9
end Go.Proofs.YtmgocfdhngeeiaaGreatDoor
end
section
namespace Go.Z
open Classical in
noncomputable def ReadUnit (s : ByteArray) : List Int × Int := if h : ∃ x : List Int × Bool, UnR s x.1 x.2 then (h.choose.1, okCode h.choose.2) else ([], 6)
theorem ReadUnit_is {s : ByteArray} {F : List Int} {ok : Bool} (h : UnR s F ok) : ReadUnit s = (F, okCode ok) := by
  have hx : ∃ x : List Int × Bool, UnR s x.1 x.2 := ⟨(F, ok), h⟩
  unfold ReadUnit
  rw [dif_pos hx]
  obtain ⟨e1, e2⟩ := UnR.same hx.choose_spec h
  rw [e1, e2]
theorem ReadUnit_le (s : ByteArray) : (ReadUnit s).1.length ≤ 1048576 := by
  by_cases hx : ∃ x : List Int × Bool, UnR s x.1 x.2
  · obtain ⟨⟨F, ok⟩, h⟩ := hx
    rw [ReadUnit_is h]
    cases ok
    · rw [h.zero rfl]; simp
    · have := (unit_parts (u := F) (h.sound rfl).1).1
      show F.length ≤ _
      omega
  · unfold ReadUnit; rw [dif_neg hx]; simp
end Go.Z
namespace Go.Proofs.YtmgocfdhngeeiaaGreatDoor
open Go.RowKit
theorem impl_ReadUnit (s : ByteArray) (w : World) (hm : s.size ≤ 1048576) (hL : LV w) :
    Calls Tryz.prog 10 #[.string s] w fun e w' => (∃ p', e = .returned (.tuple #[p', .int .i64 (Z.ReadUnit s).2]) ∧ K.own w' w.heap.size w'.heap.size p' (Z.ReadUnit s).1) ∧ K.Ext w w' :=
  (impl_ReadUnitR s w hm hL).mono fun e w' ⟨⟨F, ok, p, he, hR, ho⟩, hx⟩ => ⟨⟨p, by rw [he, Z.ReadUnit_is hR], by rw [Z.ReadUnit_is hR]; exact ho⟩, hx⟩
theorem spec_ReadUnit (s : ByteArray) (w : World) (hm : s.size ≤ 1048576) :
    Calls Tryz.prog 11 #[.string s] w fun e w' => (∃ p', e = .returned (.tuple #[p', .int .i64 (Z.ReadUnit s).2]) ∧ K.ints w' w.heap.size w'.heap.size p' (Z.ReadUnit s).1) ∧ K.Ext w w' :=
  (spec_ReadUnitR s w hm).mono fun e w' ⟨⟨F, ok, p, he, hR, ho⟩, hx⟩ => ⟨⟨p, by rw [he, Z.ReadUnit_is hR], by rw [Z.ReadUnit_is hR]; exact ho.ints⟩, hx⟩
end Go.Proofs.YtmgocfdhngeeiaaGreatDoor
end
section
namespace Go.Z
theorem ReadUnit_back {s : ByteArray} (h : (ReadUnit s).2 = 0) : isUnit (ReadUnit s).1 = true ∧ unitText (ReadUnit s).1 = s := by
  by_cases hx : ∃ x : List Int × Bool, UnR s x.1 x.2
  · obtain ⟨⟨F, ok⟩, hR⟩ := hx
    rw [ReadUnit_is hR] at h ⊢
    cases ok
    · cases h
    · exact hR.sound rfl
  · unfold ReadUnit at h
    rw [dif_neg hx] at h
    cases h
theorem UnitText_ok {u : List Int} (h : isUnit u = true) : UnitText u = (unitText u, 0) := by unfold UnitText; rw [if_pos h]
theorem UnitText_is {u : List Int} (h : (UnitText u).2 = 0) : isUnit u = true := by
  unfold UnitText at h
  split at h
  · assumption
  · cases h
theorem PowerUnit_zero {u : List Int} (h : isUnit u = true) : PowerUnit u 0 = ([0, 0, 0, 0], 0) := by
  have hl := isUnit_len h
  unfold PowerUnit
  have e : addN [0, 0, 0, 0] u 0 = [0, 0, 0, 0] := by
    match u, hl with
    | [a, b, c, d], _ => simp [addN, List.range_succ]
  rw [h, e]
  rfl
end Go.Z
namespace Go.Proofs.YtmgocfdhngeeiaaGreatDoor
open Go.RowKit
theorem impl_ReadBackU (u : List Int) (w : World) (hu : Z.isUnit u = true) (hm : (Z.unitText u).size ≤ 1048576) (hL : LV w) :
    Calls Tryz.prog 10 #[.string (Z.unitText u)] w fun e w' => (∃ p', e = .returned (.tuple #[p', .int .i64 0]) ∧ K.own w' w.heap.size w'.heap.size p' u) ∧ K.Ext w w' :=
  (impl_ReadUnitR (Z.unitText u) w hm hL).mono fun e w' ⟨⟨G, ok, p, he, hR, ho⟩, hx⟩ => by
    obtain ⟨rfl, rfl⟩ := hR.whole u hu rfl
    exact ⟨⟨p, he, ho⟩, hx⟩
theorem impl_PowerZero (u z : List Int) (hz : z = [0, 0, 0, 0]) {lo hi : Nat} {v : Value} (w : World) (hu : Z.isUnit u = true) (h : K.ints w lo hi v u) :
    Calls Tryz.prog 13 #[v, .int .i64 0] w fun e w' => (∃ r, e = .returned (.tuple #[r, .int .i64 0]) ∧ K.own w' w.heap.size w'.heap.size r z) ∧ K.Ext w w' := by
  subst hz
  have h_ := impl_PowerUnit u 0 lo hi v w (by rw [Z.isUnit_len hu]; decide) h
  rwa [Z.PowerUnit_zero hu] at h_
set_option maxRecDepth 100000 in
set_option maxHeartbeats 12800000 in
theorem law_FnUnitTexts {n : Nat} {v : Value} (w : World) (h : K.byts w w.heap.size v n) (hL : LV w) :
    Calls Tryz.prog 3 #[v] w fun e w' => e = .returned (.bool true) ∧ K.Ext w w' := by
  have F0 : K.Ext w w := K.Ext.refl _
  rcases Nat.lt_or_ge 4096 n with hn | hn
  · go_enter Tryz.func3, Tryz.ntmps3
    go_wp2_with fail
    refine K.call (by with_reducible rfl) (by with_reducible rfl) (big_yes _ hn h) ?_
    rintro e w1 ⟨rfl, rfl⟩
    go_wp2_with fail
    go_ret
    exact ⟨rfl, F0⟩
  go_enter Tryz.func3, Tryz.ntmps3
  go_wp2_with fail
  refine K.call (by with_reducible rfl) (by with_reducible rfl) (big_no _ hn h) ?_
  rintro e w1 ⟨rfl, rfl⟩
  go_wp2_with fail
  refine K.call (by with_reducible rfl) (by with_reducible rfl) (DrawUnitText_any _ hn (K.Ext.size (K.bex F0)) (h.ext (K.bex F0))) ?_
  rintro e w1 ⟨⟨vU, u, rfl, ⟨u3, u4⟩, hU⟩, f1⟩
  obtain ⟨oU, kU, rfl, _⟩ := id (hU)
  have IU_1 : K.ints w1 0 w1.heap.size (.slice oU u.length kU) u := (hU).mono (Nat.zero_le _) (by omega)
  have F1 : K.Ext w w1 := K.Ext.trans (K.bex F0) f1
  clear f1
  go_wp2_with fail
  refine K.call (by with_reducible rfl) (by with_reducible rfl) (impl_UnitText u _ (by omega) (K.bin IU_1) (hL.ext (K.bex F1)).t) ?_
  rintro e w2 ⟨rfl, f2⟩
  have F2 : K.Ext w w2 := K.Ext.trans (K.bex F1) f2
  have IU_2 := K.ints.ext (K.bin IU_1) f2
  clear IU_1 F1 f2
  go_wp2_with fail
  refine K.call (by with_reducible rfl) (by with_reducible rfl) (spec_UnitText u _ (by omega) (K.bin IU_2)) ?_
  rintro e w3 ⟨rfl, f3⟩
  have F3 : K.Ext w w3 := K.Ext.trans (K.bex F2) f3
  have IU_3 := K.ints.ext (K.bin IU_2) f3
  clear IU_2 F2 f3
  go_wp2_with fail
  refine K.call (by with_reducible rfl) (by with_reducible rfl) (DrawReadUnit_any _ hn (K.Ext.size (K.bex F3)) (h.ext (K.bex F3))) ?_
  rintro e w4 ⟨⟨s, rfl, hs⟩, f4⟩
  have F4 : K.Ext w w4 := K.Ext.trans (K.bex F3) f4
  have IU_4 := K.ints.ext (K.bin IU_3) f4
  clear IU_3 F3 f4
  go_wp2_with fail
  refine K.call (by with_reducible rfl) (by with_reducible rfl) (impl_ReadUnit s _ (by omega) (hL.ext (K.bex F4))) ?_
  rintro e w5 ⟨⟨vX, rfl, hX⟩, f5⟩
  have JX := K.own.ints hX
  obtain ⟨oX, kX, rfl, _⟩ := id (JX)
  have IX_5 : K.ints w5 0 w5.heap.size (.slice oX (Z.ReadUnit s).1.length kX) (Z.ReadUnit s).1 := (JX).mono (Nat.zero_le _) (by omega)
  have F5 : K.Ext w w5 := K.Ext.trans (K.bex F4) f5
  have IU_5 := K.ints.ext (K.bin IU_4) f5
  clear IU_4 F4 f5
  go_wp2_with fail
  refine K.call (by with_reducible rfl) (by with_reducible rfl) (spec_ReadUnit s _ (by omega)) ?_
  rintro e w6 ⟨⟨vY, rfl, hY⟩, f6⟩
  obtain ⟨oY, kY, rfl, _⟩ := id (hY)
  have IY_6 : K.ints w6 0 w6.heap.size (.slice oY (Z.ReadUnit s).1.length kY) (Z.ReadUnit s).1 := (hY).mono (Nat.zero_le _) (by omega)
  have F6 : K.Ext w w6 := K.Ext.trans (K.bex F5) f6
  have IU_6 := K.ints.ext (K.bin IU_5) f6
  have IX_6 := K.ints.ext (K.bin IX_5) f6
  clear IU_5 IX_5 F5 f6
  go_wp2_with fail
  refine K.call (by with_reducible rfl) (by with_reducible rfl) (DrawPowerUnit_any _ hn (K.Ext.size (K.bex F6)) (h.ext (K.bex F6))) ?_
  rintro e w7 ⟨⟨vV, v, c, rfl, ⟨v3, v4⟩, hV⟩, f7⟩
  obtain ⟨oV, kV, rfl, _⟩ := id (hV)
  have IV_7 : K.ints w7 0 w7.heap.size (.slice oV v.length kV) v := (hV).mono (Nat.zero_le _) (by omega)
  have F7 : K.Ext w w7 := K.Ext.trans (K.bex F6) f7
  have IU_7 := K.ints.ext (K.bin IU_6) f7
  have IX_7 := K.ints.ext (K.bin IX_6) f7
  have IY_7 := K.ints.ext (K.bin IY_6) f7
  clear IU_6 IX_6 IY_6 F6 f7
  go_wp2_with fail
  refine K.call (by with_reducible rfl) (by with_reducible rfl) (impl_PowerUnit v c _ _ _ _ (by omega) (K.bin IV_7)) ?_
  rintro e w8 ⟨⟨vP, rfl, hP⟩, f8⟩
  have JP := K.own.ints hP
  obtain ⟨oP, kP, rfl, _⟩ := id (JP)
  have IP_8 : K.ints w8 0 w8.heap.size (.slice oP (Z.PowerUnit v c).1.length kP) (Z.PowerUnit v c).1 := (JP).mono (Nat.zero_le _) (by omega)
  have F8 : K.Ext w w8 := K.Ext.trans (K.bex F7) f8
  have IU_8 := K.ints.ext (K.bin IU_7) f8
  have IX_8 := K.ints.ext (K.bin IX_7) f8
  have IY_8 := K.ints.ext (K.bin IY_7) f8
  have IV_8 := K.ints.ext (K.bin IV_7) f8
  clear IU_7 IX_7 IY_7 IV_7 F7 f8
  go_wp2_with fail
  refine K.call (by with_reducible rfl) (by with_reducible rfl) (spec_PowerUnit v c _ _ _ _ (by omega) (K.bin IV_8)) ?_
  rintro e w9 ⟨⟨vQ, rfl, hQ⟩, f9⟩
  obtain ⟨oQ, kQ, rfl, _⟩ := id (hQ)
  have IQ_9 : K.ints w9 0 w9.heap.size (.slice oQ (Z.PowerUnit v c).1.length kQ) (Z.PowerUnit v c).1 := (hQ).mono (Nat.zero_le _) (by omega)
  have F9 : K.Ext w w9 := K.Ext.trans (K.bex F8) f9
  have IU_9 := K.ints.ext (K.bin IU_8) f9
  have IX_9 := K.ints.ext (K.bin IX_8) f9
  have IY_9 := K.ints.ext (K.bin IY_8) f9
  have IV_9 := K.ints.ext (K.bin IV_8) f9
  have IP_9 := K.ints.ext (K.bin IP_8) f9
  clear IU_8 IX_8 IY_8 IV_8 IP_8 F8 f9
  go_wp2_with fail
  refine K.call (by with_reducible rfl) (by with_reducible rfl) (DrawIsFitting_any _ hn (K.Ext.size (K.bex F9)) (h.ext (K.bex F9))) ?_
  rintro e w10 ⟨⟨F, pF, vW, xss, vr, r, rfl, ⟨a1, a2⟩, hF1, ⟨x8, x4⟩, hW, _, ⟨r3, r4⟩, hr⟩, f10⟩
  obtain ⟨oF, kF, rfl, _⟩ := id (hF1)
  have IF_10 : K.ints w10 0 w10.heap.size (.slice oF F.pw.length kF) F.pw := (hF1).mono (Nat.zero_le _) (by omega)
  obtain ⟨or, kr, rfl, _⟩ := id (hr)
  have Ir_10 : K.ints w10 0 w10.heap.size (.slice or r.length kr) r := (hr).mono (Nat.zero_le _) (by omega)
  obtain ⟨oW, kW, usW, rfl, _⟩ := id (hW)
  have IW_10 : K.rows w10 0 w10.heap.size (.slice oW xss.length kW) xss := K.rows.mono (hW) (Nat.zero_le _) (by omega)
  have F10 : K.Ext w w10 := K.Ext.trans (K.bex F9) f10
  have IU_10 := K.ints.ext (K.bin IU_9) f10
  have IX_10 := K.ints.ext (K.bin IX_9) f10
  have IY_10 := K.ints.ext (K.bin IY_9) f10
  have IP_10 := K.ints.ext (K.bin IP_9) f10
  have IQ_10 := K.ints.ext (K.bin IQ_9) f10
  clear IU_9 IX_9 IY_9 IP_9 IQ_9 F9 f10
  have HQ := Z.hide (show ∀ xs ∈ xss, (xs : List Int).length ≤ 1048576 from fun xs hx => Nat.le_trans (x4 xs hx) (by decide))
  clear x4
  go_wp2_with fail
  refine K.call (by with_reducible rfl) (by with_reducible rfl) (impl_IsFitting F xss r _ (by omega) (by omega) (K.bin IF_10) (by omega) HQ.out (show K.rows _ 0 w10.heap.size (.slice oW xss.length kW) xss from by with_reducible repeat' (first | exact IW_10 | refine K.rows.alloc ?_ _ | refine K.rows.drew ?_ | refine K.rows.set ?_ _ ?_ _ | (dsimp only; omega) | omega | (simp; done) | (simp; omega))) (by omega) (K.bin Ir_10)) ?_
  rintro e w11 ⟨rfl, f11⟩
  have F11 : K.Ext w w11 := K.Ext.trans (K.bex F10) f11
  have c11_0_0 : w11.cell? ⟨w10.heap.size, 0, none⟩ = some (.int .i64 F.dg) := f11.cell_of (by go_simp)
  have c11_0_1 : w11.cell? ⟨w10.heap.size, 1, none⟩ = some (.int .i64 F.tn) := f11.cell_of (by go_simp)
  have c11_0_2 : w11.cell? ⟨w10.heap.size, 2, none⟩ = some (.string F.nm) := f11.cell_of (by go_simp)
  have c11_0_3 : w11.cell? ⟨w10.heap.size, 3, none⟩ = some (.slice oF F.pw.length kF) := f11.cell_of (by go_simp)
  have y11_0 : w10.heap.size < w11.heap.size := World.block_lt_of_cell? w11 _ c11_0_0
  have IU_11 := K.ints.ext (K.bin IU_10) f11
  have IX_11 := K.ints.ext (K.bin IX_10) f11
  have IY_11 := K.ints.ext (K.bin IY_10) f11
  have IP_11 := K.ints.ext (K.bin IP_10) f11
  have IQ_11 := K.ints.ext (K.bin IQ_10) f11
  have IF_11 := K.ints.ext (K.bin IF_10) f11
  have Ir_11 := K.ints.ext (K.bin Ir_10) f11
  have IW_11 := K.rows.ext (show K.rows _ 0 w10.heap.size (.slice oW xss.length kW) xss from by with_reducible repeat' (first | exact IW_10 | refine K.rows.alloc ?_ _ | refine K.rows.drew ?_ | refine K.rows.set ?_ _ ?_ _ | (dsimp only; omega) | omega | (simp; done) | (simp; omega))) f11
  clear IU_10 IX_10 IY_10 IP_10 IQ_10 IF_10 Ir_10 IW_10 F10 f11
  go_wp2_with fail
  refine K.call (by with_reducible rfl) (by with_reducible rfl) (spec_IsFitting F xss r _ (by omega) (by omega) (K.bin IF_11) (by omega) HQ.out (show K.rows _ 0 w10.heap.size (.slice oW xss.length kW) xss from by with_reducible repeat' (first | exact IW_11 | refine K.rows.alloc ?_ _ | refine K.rows.drew ?_ | refine K.rows.set ?_ _ ?_ _ | (dsimp only; omega) | omega | (simp; done) | (simp; omega))) (by omega) (K.bin Ir_11)) ?_
  rintro e w12 ⟨rfl, f12⟩
  have F12 : K.Ext w w12 := K.Ext.trans (K.bex F11) f12
  obtain ⟨c12_0_0, c12_0_1, c12_0_2, c12_0_3, y12_0⟩ := f12.q4 c11_0_0 c11_0_1 c11_0_2 c11_0_3
  have IU_12 := K.ints.ext (K.bin IU_11) f12
  have IX_12 := K.ints.ext (K.bin IX_11) f12
  have IY_12 := K.ints.ext (K.bin IY_11) f12
  have IP_12 := K.ints.ext (K.bin IP_11) f12
  have IQ_12 := K.ints.ext (K.bin IQ_11) f12
  have IF_12 := K.ints.ext (K.bin IF_11) f12
  have Ir_12 := K.ints.ext (K.bin Ir_11) f12
  have IW_12 := K.rows.ext (show K.rows _ 0 w10.heap.size (.slice oW xss.length kW) xss from by with_reducible repeat' (first | exact IW_11 | refine K.rows.alloc ?_ _ | refine K.rows.drew ?_ | refine K.rows.set ?_ _ ?_ _ | (dsimp only; omega) | omega | (simp; done) | (simp; omega))) f12
  clear c11_0_0 c11_0_1 c11_0_2 c11_0_3 y11_0 IU_11 IX_11 IY_11 IP_11 IQ_11 IF_11 Ir_11 IW_11 F11 f12
  clear HQ
  have m1 := Z.ReadUnit_le s
  have m2 := Z.PowerUnit_len v c
  go_wp2_with fail
  refine K.call (by with_reducible rfl) (by with_reducible rfl) (likeInts_same (Z.ReadUnit s).1 _ _ _ _ _ _ _ m1 (K.bin IX_12) (K.bin IY_12)) ?_
  rintro e w13 ⟨rfl, f13⟩
  have F13 : K.Ext w w13 := K.Ext.trans (K.bex F12) f13
  have IU_13 := K.ints.ext (K.bin IU_12) f13
  have IX_13 := K.ints.ext (K.bin IX_12) f13
  have IY_13 := K.ints.ext (K.bin IY_12) f13
  have IP_13 := K.ints.ext (K.bin IP_12) f13
  have IQ_13 := K.ints.ext (K.bin IQ_12) f13
  clear c12_0_0 c12_0_1 c12_0_2 c12_0_3 y12_0 IU_12 IX_12 IY_12 IP_12 IQ_12 F12 f13
  go_wp2_with fail
  refine K.call (by with_reducible rfl) (by with_reducible rfl) (likeInts_same (Z.PowerUnit v c).1 _ _ _ _ _ _ _ m2 (K.bin IP_13) (K.bin IQ_13)) ?_
  rintro e w14 ⟨rfl, f14⟩
  have F14 : K.Ext w w14 := K.Ext.trans (K.bex F13) f14
  have IU_14 := K.ints.ext (K.bin IU_13) f14
  have IX_14 := K.ints.ext (K.bin IX_13) f14
  have IP_14 := K.ints.ext (K.bin IP_13) f14
  have IQ_14 := K.ints.ext (K.bin IQ_13) f14
  clear IU_13 IX_13 IP_13 IQ_13 F13 f14
  have ht := Z.UnitText_size u
  by_cases h0 : (Z.ReadUnit s).2 = 0
  · obtain ⟨k1, k2⟩ := Z.ReadUnit_back h0
    have k3 := Z.UnitText_ok k1
    rw [k2] at k3
    have hft := fun w' {lo hi : Nat} {p : Value} (h : K.ints w' lo hi p (Z.ReadUnit s).1) (hl : LTab w') => impl_UnitText (Z.ReadUnit s).1 w' m1 h hl
    rw [k3] at hft
    go_wp2_with fail
    refine K.call (by with_reducible rfl) (by with_reducible rfl) (hft _ (K.bin IX_14) (hL.ext (K.bex F14)).t) ?_
    rintro e w15 ⟨rfl, f15⟩
    have F15 : K.Ext w w15 := K.Ext.trans (K.bex F14) f15
    have IU_15 := K.ints.ext (K.bin IU_14) f15
    have IX_15 := K.ints.ext (K.bin IX_14) f15
    clear IU_14 IX_14 F14 f15
    by_cases hc : (Z.UnitText u).2 = 0
    · have hv := Z.UnitText_is hc
      have hv2 := Z.UnitText_ok hv
      rw [hv2] at ht
      have hrb := fun w' (h : LV w') => impl_ReadBackU u w' hv (Nat.le_trans ht (by decide)) h
      go_wp2_with fail
      refine K.call (by with_reducible rfl) (by with_reducible rfl) (hrb _ (hL.ext (K.bex F15))) ?_
      rintro e w16 ⟨⟨vZ, rfl, hZ⟩, f16⟩
      have JZ := K.own.ints hZ
      obtain ⟨oZ, kZ, rfl, _⟩ := id (JZ)
      have IZ_16 : K.ints w16 0 w16.heap.size (.slice oZ u.length kZ) u := (JZ).mono (Nat.zero_le _) (by omega)
      have F16 : K.Ext w w16 := K.Ext.trans (K.bex F15) f16
      have IU_16 := K.ints.ext (K.bin IU_15) f16
      clear IU_15 F15 f16
      obtain ⟨z, hz⟩ : ∃ z : List Int, z = [0, 0, 0, 0] := ⟨_, rfl⟩
      have HZ := Z.hide hz
      have lz : z.length ≤ 1048576 := by rw [hz]; decide
      clear hz
      go_wp2_with fail
      refine K.call (by with_reducible rfl) (by with_reducible rfl) (impl_PowerZero u z HZ.out _ hv (K.bin IU_16)) ?_
      rintro e w17 ⟨⟨vN, rfl, hN⟩, f17⟩
      have JN := K.own.ints hN
      obtain ⟨oN, kN, rfl, _⟩ := id (JN)
      have IN_17 : K.ints w17 0 w17.heap.size (.slice oN z.length kN) z := (JN).mono (Nat.zero_le _) (by omega)
      have F17 : K.Ext w w17 := K.Ext.trans (K.bex F16) f17
      have IU_17 := K.ints.ext (K.bin IU_16) f17
      have IZ_17 := K.ints.ext (K.bin IZ_16) f17
      clear IU_16 IZ_16 F16 f17
      go_wp2_with fail
      refine K.call (by with_reducible rfl) (by with_reducible rfl) (likeInts_same u _ _ _ _ _ _ _ (by omega) (K.bin IZ_17) (K.bin IU_17)) ?_
      rintro e w18 ⟨rfl, f18⟩
      have F18 : K.Ext w w18 := K.Ext.trans (K.bex F17) f18
      have IU_18 := K.ints.ext (K.bin IU_17) f18
      have IZ_18 := K.ints.ext (K.bin IZ_17) f18
      have IN_18 := K.ints.ext (K.bin IN_17) f18
      clear IU_17 IZ_17 IN_17 F17 f18
      have HL4 := K.ints_lit (W := w18) (T := 2) (n := 4) (cs := #[.int .i64 0, .int .i64 0, .int .i64 0, .int .i64 0]) z (by rw [HZ.out]; rfl) (by rw [HZ.out]; rfl) rfl
      go_wp2_with fail
      refine K.call (by with_reducible rfl) (by with_reducible rfl) (likeInts_same z _ _ _ _ _ _ _ lz (K.bin IN_18) HL4) ?_
      rintro e w19 ⟨rfl, f19⟩
      have F19 : K.Ext w w19 := K.Ext.trans (K.bex F18) f19
      have IN_19 := K.ints.ext (K.bin IN_18) f19
      clear IN_18 F18 f19
      go_wp2_with fail
      go_ret
      exact ⟨rfl, (K.bex F19)⟩
    have hc' : ((Z.UnitText u).2 == 0) = false := by simpa using hc
    go_wp2_with fail
    go_ret
    exact ⟨rfl, (K.bex F15)⟩
  have h0' : ((Z.ReadUnit s).2 == 0) = false := by simpa using h0
  by_cases hc : (Z.UnitText u).2 = 0
  · have hv := Z.UnitText_is hc
    have hv2 := Z.UnitText_ok hv
    rw [hv2] at ht
    have hrb := fun w' (h : LV w') => impl_ReadBackU u w' hv (Nat.le_trans ht (by decide)) h
    go_wp2_with fail
    refine K.call (by with_reducible rfl) (by with_reducible rfl) (hrb _ (hL.ext (K.bex F14))) ?_
    rintro e w15 ⟨⟨vZ, rfl, hZ⟩, f15⟩
    have JZ := K.own.ints hZ
    obtain ⟨oZ, kZ, rfl, _⟩ := id (JZ)
    have IZ_15 : K.ints w15 0 w15.heap.size (.slice oZ u.length kZ) u := (JZ).mono (Nat.zero_le _) (by omega)
    have F15 : K.Ext w w15 := K.Ext.trans (K.bex F14) f15
    have IU_15 := K.ints.ext (K.bin IU_14) f15
    clear IU_14 F14 f15
    obtain ⟨z, hz⟩ : ∃ z : List Int, z = [0, 0, 0, 0] := ⟨_, rfl⟩
    have HZ := Z.hide hz
    have lz : z.length ≤ 1048576 := by rw [hz]; decide
    clear hz
    go_wp2_with fail
    refine K.call (by with_reducible rfl) (by with_reducible rfl) (impl_PowerZero u z HZ.out _ hv (K.bin IU_15)) ?_
    rintro e w16 ⟨⟨vN, rfl, hN⟩, f16⟩
    have JN := K.own.ints hN
    obtain ⟨oN, kN, rfl, _⟩ := id (JN)
    have IN_16 : K.ints w16 0 w16.heap.size (.slice oN z.length kN) z := (JN).mono (Nat.zero_le _) (by omega)
    have F16 : K.Ext w w16 := K.Ext.trans (K.bex F15) f16
    have IU_16 := K.ints.ext (K.bin IU_15) f16
    have IZ_16 := K.ints.ext (K.bin IZ_15) f16
    clear IU_15 IZ_15 F15 f16
    go_wp2_with fail
    refine K.call (by with_reducible rfl) (by with_reducible rfl) (likeInts_same u _ _ _ _ _ _ _ (by omega) (K.bin IZ_16) (K.bin IU_16)) ?_
    rintro e w17 ⟨rfl, f17⟩
    have F17 : K.Ext w w17 := K.Ext.trans (K.bex F16) f17
    have IU_17 := K.ints.ext (K.bin IU_16) f17
    have IZ_17 := K.ints.ext (K.bin IZ_16) f17
    have IN_17 := K.ints.ext (K.bin IN_16) f17
    clear IU_16 IZ_16 IN_16 F16 f17
    have HL4 := K.ints_lit (W := w17) (T := 2) (n := 4) (cs := #[.int .i64 0, .int .i64 0, .int .i64 0, .int .i64 0]) z (by rw [HZ.out]; rfl) (by rw [HZ.out]; rfl) rfl
    go_wp2_with fail
    refine K.call (by with_reducible rfl) (by with_reducible rfl) (likeInts_same z _ _ _ _ _ _ _ lz (K.bin IN_17) HL4) ?_
    rintro e w18 ⟨rfl, f18⟩
    have F18 : K.Ext w w18 := K.Ext.trans (K.bex F17) f18
    have IN_18 := K.ints.ext (K.bin IN_17) f18
    clear IN_17 F17 f18
    go_wp2_with fail
    go_ret
    exact ⟨rfl, (K.bex F18)⟩
  have hc' : ((Z.UnitText u).2 == 0) = false := by simpa using hc
  go_wp2_with fail
  go_ret
  exact ⟨rfl, (K.bex F14)⟩
end Go.Proofs.YtmgocfdhngeeiaaGreatDoor
end
section
namespace Go.Proofs.YtmgocfdhngeeiaaGreatDoor
open Go.ChangeShapes Go.WideShapes Go.ChangeAt Go.RowKit
namespace frameFnUnitTexts
theorem own : ownKnob Tryz.prog.godebug = none := by kernel_rfl
theorem laidOut : laidOutB Tryz.prog = true := by kernel_rfl
theorem reads : ∀ t ∈ Tryz.f3.params.toList, Tryz.prog.readableRec t = true ∧ t < Tryz.prog.types.size := by
  rw [Tryz.params3]
  intro t ht
  simp only [List.mem_cons, List.not_mem_nil, or_false] at ht
  subst ht; exact ⟨by kernel_rfl, of_decide_eq_true (by kernel_rfl)⟩
theorem gTab : Tryz.prog.globalNamed "internal/strconv.uint64pow10" = some 3 := by kernel_rfl
theorem gTabType : (Tryz.prog.globals[3]?).map (·.type) = some 188 := by kernel_rfl
theorem cellsT : Tryz.prog.cellsOf 188 = 20 := by kernel_rfl
theorem cellsE : Tryz.prog.cellsOf 154 = 1 := by kernel_rfl
theorem laidList {W : World} (h : laidMetH Tryz.prog Rows.fnUnitTextsRow.laid W) : laidMet Tryz.prog Rows.fnUnitTextsRow.laid W := by
  rwa [MakeChecks.laidMetH_plain _ _ _ (by kernel_rfl)] at h
theorem table {W : World} (h : laidMetH Tryz.prog Rows.fnUnitTextsRow.laid W) : LTab W := by
  have h3 := (laidList h).tail.tail
  exact ⟨Lib.tabIs_of_head (k := .u64) (zs := Lib.pow10Tab) gTab gTabType Tryz.underlying188 Tryz.underlying154 cellsE cellsT h3⟩
theorem gES : Tryz.prog.globalNamed "strconv.ErrSyntax" = some 1 := by kernel_rfl
theorem gESType : (Tryz.prog.globals[1]?).map (·.type) = some 110 := by kernel_rfl
theorem gER : Tryz.prog.globalNamed "strconv.ErrRange" = some 2 := by kernel_rfl
theorem gERType : (Tryz.prog.globals[2]?).map (·.type) = some 110 := by kernel_rfl
theorem cellsErr : Tryz.prog.cellsOf 198 = 1 := by kernel_rfl
theorem cellsStr : Tryz.prog.cellsOf 9 = 1 := by kernel_rfl
theorem star : "*" ++ "errors.errorString" = "*errors.errorString" := by decide
theorem rowErr (u : TypeId) (h : Tryz.prog.typeName? 3 u = some "*errors.errorString") : u = 196 :=
  typeName_ptr_named (nm := "errors.errorString") (by rw [star]; kernel_rfl) (by kernel_rfl) (by decide) u (by rw [star]; exact h)
theorem libv {W : World} (h : laidMetH Tryz.prog Rows.fnUnitTextsRow.laid W) (hsh : W.ShapedOpen Tryz.prog) : LV W := by
  have h5 := (laidList h).tail.tail.tail.tail
  obtain ⟨a0, s0, hv0, -, -, -⟩ := laid_sentinel h5 gER gERType Tryz.underlying110 rowErr Tryz.underlying196 Tryz.underlying198 rfl rfl Tryz.underlying9 cellsErr cellsStr
  obtain ⟨a1, s1, hv1, -, -, -⟩ := laid_sentinel h5.tail gES gESType Tryz.underlying110 rowErr Tryz.underlying196 Tryz.underlying198 rfl rfl Tryz.underlying9 cellsErr cellsStr
  exact ⟨(table h).tab, Tryz.laysM146.s1_3 W hsh, ⟨_, by have h0 := World.var?_cell gES hv1 0; simpa using h0, Or.inr ⟨_, _, rfl⟩⟩, ⟨_, by have h0 := World.var?_cell gER hv0 0; simpa using h0, Or.inr ⟨_, _, rfl⟩⟩⟩
/-- A world for the witness: what the door lays, and the pinned table. -/
noncomputable def laidWorld (os : Os) : World :=
  { World.doorLaid Tryz.prog 72 os with heap := (World.doorLaid Tryz.prog 72 os).heap.modify 4 fun
      | .cells _ t frozen => .cells (Go.Pinned.utf8FirstZ.map (fun (n : Nat) => Value.int .u8 (n : Int))).toArray t frozen
      | o => o }
theorem laid_met (os : Os) : laidMetH Tryz.prog Rows.fnUnitTextsRow.laid ((laidWorld os).forCall (fun _ _ => 0) ⟨#[], #[.slice none 0 0], []⟩).memory :=
  laidMetH_of_parts3 (fuel := 8) (laidMet_of_run' 8 (by kernel_rfl) (by kernel_rfl)) (by kernel_rfl) (by kernel_rfl)
theorem readsW (os : Os) {H : Type} (enc : TypeId × Value → H) : ∃ places, DataW.whole enc Tryz.prog ((laidWorld os).forCall (fun _ _ => 0) ⟨#[], #[.slice none 0 0], []⟩).memory Tryz.f3.params.toList Rows.fnUnitTextsSpec.vars false #[.slice none 0 0].toList 8 = some ([.nil], [], places) :=
  ⟨[], by kernel_rfl⟩
set_option maxRecDepth 100000 in
theorem lifted (os : Os) (started : os.Started) (H : Type) (enc : TypeId × Value → H) (F : Stop.Interp) :
    ReturnsInHanded {} Tryz.checked os 3 .any ((OpenSpec.ofChange Rows.fnUnitTextsSpec).preRow enc Tryz.prog Tryz.f3 Rows.fnUnitTextsRow.domain false Rows.fnUnitTextsRow.laid) (((OpenSpec.ofChange Rows.fnUnitTextsSpec).at F).post enc Tryz.prog Tryz.f3 false true false false) := by
  obtain ⟨places, hx⟩ := readsW os enc
  refine returnsInHanded_of_row (C := Tryz.checked) (s := OpenSpec.ofChange Rows.fnUnitTextsSpec) own started (by kernel_rfl) Tryz.func3
    (witness_row_atRef (enc := enc) (C := Tryz.checked) false (laidWorld os) #[.slice none 0 0] rfl (by kernel_rfl) (by kernel_rfl) (by kernel_rfl)
      (OpenSpec.preRow_of_cond 8 hx (by kernel_rfl) (fun k hk => by cases hk) (by kernel_rfl) (laid_met os))) ?_
  intro W base args ds gs before hval0 hW hcnd _ _ hL hsh _
  have hval : ∀ (j : Nat) t v, Tryz.f3.params[j]? = some t → args[j]? = some v → Value.okWide Tryz.prog W .any base t v := hval0
  have hW' := hW
  obtain ⟨p, q, hA0, hV, rfl, hfz, hnd⟩ := hW
  have hA : DataW.TrodAll enc Tryz.prog W 0 (fun _ => true) true Tryz.f3.params.toList args.toList ds p := hA0
  rw [Tryz.params3] at hA hval
  obtain ⟨rfl, rfl⟩ := trodVars_none hV
  obtain ⟨v0, vs0, d0, ds0, p0, q0, hargs, rfl, rfl, h0, r0⟩ := trodAll_cons hA
  obtain ⟨rfl, rfl, rfl⟩ := trodAll_nil r0
  obtain rfl : args = #[v0] := by cases args; simp_all
  clear hA0 hval0
  obtain ⟨a0, l0, c0, rfl⟩ := okWide_slice Tryz.underlying22 (hval 0 22 v0 rfl rfl)
  obtain ⟨fu0, hf0⟩ := h0
  obtain ⟨x0, zs0, ex0, hx0, hl0, hq0⟩ := K.recs_arg (R := K.ByR) (Q := fun s => 0 ≤ s ∧ s ≤ 255) 0 (by decide) Tryz.underlying22 (by kernel_rfl) (fun n cs y hy => K.byte_cells Tryz.underlying5 hy) hf0
  obtain rfl : Value.slice a0 l0 c0 = x0 := by simpa [Value.cells] using ex0
  refine Calls.mono (law_FnUnitTexts  W (K.byts_of_recs hx0 hq0) (libv hL hsh)) fun e W' ⟨he, hg⟩ => ?_
  subst he
  exact ⟨_, rfl, K.law_post laidOut reads rfl Tryz.underlying4 rfl hW' rfl hg⟩
theorem over : Rows.FnUnitTextsSaid :=
  OpenClaim.holds_of_cond 3 Tryz.f3 rfl rfl rfl rfl rfl rfl rfl ⟨rfl, rfl, rfl, rfl, rfl⟩ rfl rfl rfl rfl rfl (by kernel_rfl) Tryz.func3 (by kernel_rfl)
    (of_decide_eq_true (by kernel_rfl)) (by unfold Func.isWrapper; first | (rw [if_pos (by decide +kernel)]; kernel_rfl) | (rw [if_neg (by decide +kernel)]; exact ⟨rfl, rfl⟩))
    (fun os started H enc _ F => by rw [OpenClaim.pre_eq_preRow]; exact lifted os started H enc F)
theorem plain (f : FuncId) (fn : Func) (hf : Tryz.pinned.checked.prog.funcNamed "loop.example/g00951/laws.FnUnitTexts" = some f) (hfn : Tryz.pinned.checked.prog.funcs[f]? = some fn) :
    true = Tryz.pinned.checked.prog.looks [] ∧ ∀ (j : Nat) t, fn.params[j]? = some t → Tryz.pinned.checked.prog.wantsStandIn t = false := by
  obtain rfl : f = 3 := Option.some.inj ((show Tryz.prog.funcNamed "loop.example/g00951/laws.FnUnitTexts" = some 3 by kernel_rfl).symm.trans hf) |>.symm
  obtain rfl : fn = Tryz.f3 := (Option.some.inj (Tryz.func3.symm.trans hfn)).symm
  refine ⟨by kernel_rfl, fun j t ht => ?_⟩
  rw [Tryz.params3] at ht
  have hm := Array.mem_of_getElem? ht
  simp only [List.mem_toArray, List.mem_cons, List.not_mem_nil, or_false] at hm
  subst hm
  exact (show Tryz.prog.wantsStandIn 22 = false by kernel_rfl)
/-- The given statement: the card. -/
theorem proved : Rows.FnUnitTextsCardSaid :=
  Claim7.holds_tied_plain_at .later [] _ _ _ _ over (fun _ h => by cases h) (by kernel_rfl) (fun _ h => by cases h) fnUnitTexts_row_tie rfl ⟨rfl, rfl⟩ (by kernel_rfl) rfl plain (by kernel_rfl)
#print axioms proved
end frameFnUnitTexts
end Go.Proofs.YtmgocfdhngeeiaaGreatDoor
end
