/-
  Part 6 of the texts of this claim: contracts of functions and plain mathematics.
-/
import Derived.Test.YtmgocfdhngeeiaaGreatDoorPIS5
import Derived.Ground.SlgnProg
import Derived.Shelf.LaysC
import Derived.Shelf.LaysM
import Derived.Shelf.Strconv.Itoa4
import Derived.Shelf.Strconv.ParseIntPublic10
import Derived.Shelf.Strings.OnBuilder
import Derived.Shelf.Strings.Prefix
import Derived.Shelf.Strings.Search3
import Derived.Shelf.Strings.Split
import Derived.Shelf.Strings.SplitShaped
import Derived.Lib.AppendIntMem
import Derived.Lib.ParseIntBTie
import Derived.Lib.Replace
import Derived.Lib.ReplaceLaws
set_option linter.unusedVariables false
section
namespace Go.Proofs
open Go.Shelf
def Tryz.lays156_ren : Go.Shelf.Ren := ⟨fun | 156 => 77 | 165 => 108 | 166 => 109 | 169 => 110 | 240 => 142 | 241 => 143 | 276 => 166 | 277 => 167 | n => n, fun | 31 => 67 | 9 => 9 | 3 => 3 | 4 => 4 | 0 => 0 | 20 => 20 | 72 => 127 | 76 => 129 | 70 => 125 | 37 => 22 | 75 => 110 | 127 => 148 | 164 => 168 | 5 => 5 | 80 => 131 | n => n, fun | n => n⟩
theorem Tryz.lays156 : Go.Proofs.Lays.n156 Tryz.prog Tryz.lays156_ren := {
  mixed := by kernel_rfl
  f156 := Tryz.func77.trans (congrArg some (by kernel_rfl))
  f165 := Tryz.func108.trans (congrArg some (by kernel_rfl))
  f166 := Tryz.func109.trans (congrArg some (by kernel_rfl))
  f169 := Tryz.func110.trans (congrArg some (by kernel_rfl))
  f240 := Tryz.func142.trans (congrArg some (by kernel_rfl))
  f241 := Tryz.func143.trans (congrArg some (by kernel_rfl))
  f276 := Tryz.func166.trans (congrArg some (by kernel_rfl))
  f277 := Tryz.func167.trans (congrArg some (by kernel_rfl))
  t0 := Tryz.underlying0
  a0 := Tryz.isAgg0
  z0 := Tryz.sizeOf0
  v0 := Tryz.zeroValue0
  t3 := Tryz.underlying3
  a3 := Tryz.isAgg3
  z3 := Tryz.sizeOf3
  v3 := Tryz.zeroValue3
  t4 := Tryz.underlying4
  a4 := Tryz.isAgg4
  z4 := Tryz.sizeOf4
  v4 := Tryz.zeroValue4
  t9 := Tryz.underlying9
  a9 := Tryz.isAgg9
  z9 := Tryz.sizeOf9
  v9 := Tryz.zeroValue9
  t20 := Tryz.underlying20
  a20 := Tryz.isAgg20
  z20 := Tryz.sizeOf20
  v20 := Tryz.zeroValue20
  t31 := Tryz.underlying67
  a31 := Tryz.isAgg67
  z31 := Tryz.sizeOf67
  v31 := Tryz.zeroValue67
  t37 := Tryz.underlying22
  a37 := Tryz.isAgg22
  z37 := Tryz.sizeOf22
  v37 := Tryz.zeroValue22
  t70 := Tryz.underlying125
  a70 := Tryz.isAgg125
  z70 := Tryz.sizeOf125
  v70 := Tryz.zeroValue125
  t72 := Tryz.underlying127
  a72 := Tryz.isAgg127
  z72 := Tryz.sizeOf127
  v72 := Tryz.zeroValue127
  t75 := Tryz.underlying110
  a75 := Tryz.isAgg110
  z75 := Tryz.sizeOf110
  v75 := Tryz.zeroValue110
  t76 := Tryz.underlying129
  a76 := Tryz.isAgg129
  z76 := Tryz.sizeOf129
  v76 := Tryz.zeroValue129
  t127 := Tryz.underlying148
  a127 := Tryz.isAgg148
  z127 := Tryz.sizeOf148
  v127 := Tryz.zeroValue148
  t164 := Tryz.underlying168
  a164 := Tryz.isAgg168
  z164 := Tryz.sizeOf168
  v164 := Tryz.zeroValue168 }
theorem Tryz.Builder_Extra_156 : Builder.Extra Tryz.prog Tryz.lays156_ren := {
  sizeBuilder := by kernel_rfl
  liesBuilder := by kernel_rfl
  t5 := Tryz.underlying5
  a5 := Tryz.isAgg5
  z5 := Tryz.sizeOf5
  v5 := Tryz.zeroValue5
  infoByte := by kernel_rfl
  cellsByte := by kernel_rfl
  sizeByte := by kernel_rfl
  neB5 := by decide }
open Go.RowKit in
/-- No element: the empty string; the world is as it was. (Whatever the slice's address and capacity: a nil slice too.) (LAID: no walk: one application.) -/
theorem Tryz.strings_Join_none (a : Option Addr) (c : Nat) (sep : ByteArray) (w : World) :
    Calls Tryz.prog 77 #[.slice a 0 c, .string sep] w fun e w' => e = .returned (.string ⟨#[]⟩) ∧ w' = w := Any.strings_Join_none Tryz.lays156 Tryz.Builder_Extra_156 a c sep w
open Go.RowKit in
/-- strings.Join: "Join concatenates the elements of its first argument to create a single string. The separator string sep is placed between elements in the resulting string.": HOWEVER MANY ELEMENTS. Below the heap's end the world is as it was. (LAID: no walk: one application.) -/
theorem Tryz.strings_Join (bk o c : Nat) (xs : List ByteArray) (sep : ByteArray) (w : World) (hcells : ∀ (j : Nat) x, xs[j]? = some x → w.cell? ⟨bk, o + j, none⟩ = some (.string x)) (hbk : bk < w.heap.size) (hN : xs.length ≤ 140737488355328) (hcap : xs.length ≤ c) (hlen : (Lib.join (xs.map (·.data.toList)) sep.data.toList).length ≤ 140737488355328) :
    Calls Tryz.prog 77 #[.slice (some ⟨bk, o, none⟩) xs.length c, .string sep] w fun e w' => e = .returned (.string ⟨(Lib.join (xs.map (·.data.toList)) sep.data.toList).toArray⟩) ∧ Below w.heap.size w w' := Any.strings_Join Tryz.lays156 Tryz.Builder_Extra_156 bk o c xs sep w hcells hbk hN hcap hlen
def Tryz.laysM173_ren : Go.Shelf.Ren := ⟨fun | 173 => 119 | 246 => 147 | 283 => 168 | 284 => 169 | 285 => 170 | 286 => 171 | 129 => 186 | 317 => 185 | 318 => 187 | 319 => 188 | 320 => 189 | 337 => 195 | 338 => 196 | n => n, fun | 2 => 2 | 3 => 3 | 9 => 9 | 4 => 4 | 171 => 172 | 0 => 0 | 53 => 154 | 37 => 22 | 5 => 5 | 173 => 175 | 212 => 188 | 51 => 160 | 20 => 20 | 213 => 189 | 46 => 138 | 232 => 203 | 233 => 204 | n => n, fun | 17 => 3 | 18 => 6 | 19 => 7 | n => n⟩
theorem Tryz.laysM173 : Go.Proofs.LaysM.n173 Tryz.prog Tryz.laysM173_ren := {
  mixed := by kernel_rfl
  f129 := Tryz.func186.trans (congrArg some (by kernel_rfl))
  f173 := Tryz.func119.trans (congrArg some (by kernel_rfl))
  f246 := Tryz.func147.trans (congrArg some (by kernel_rfl))
  f283 := Tryz.func168.trans (congrArg some (by kernel_rfl))
  f284 := Tryz.func169.trans (congrArg some (by kernel_rfl))
  f285 := Tryz.func170.trans (congrArg some (by kernel_rfl))
  f286 := Tryz.func171.trans (congrArg some (by kernel_rfl))
  f317 := Tryz.func185.trans (congrArg some (by kernel_rfl))
  f318 := Tryz.func187.trans (congrArg some (by kernel_rfl))
  f319 := Tryz.func188.trans (congrArg some (by kernel_rfl))
  f320 := Tryz.func189.trans (congrArg some (by kernel_rfl))
  f337 := Tryz.func195.trans (congrArg some (by kernel_rfl))
  f338 := Tryz.func196.trans (congrArg some (by kernel_rfl))
  t0 := Tryz.underlying0
  a0 := Tryz.isAgg0
  z0 := Tryz.sizeOf0
  v0 := Tryz.zeroValue0
  t2 := Tryz.underlying2
  a2 := Tryz.isAgg2
  z2 := Tryz.sizeOf2
  v2 := Tryz.zeroValue2
  t3 := Tryz.underlying3
  a3 := Tryz.isAgg3
  z3 := Tryz.sizeOf3
  v3 := Tryz.zeroValue3
  t4 := Tryz.underlying4
  a4 := Tryz.isAgg4
  z4 := Tryz.sizeOf4
  v4 := Tryz.zeroValue4
  t5 := Tryz.underlying5
  a5 := Tryz.isAgg5
  z5 := Tryz.sizeOf5
  v5 := Tryz.zeroValue5
  t9 := Tryz.underlying9
  a9 := Tryz.isAgg9
  z9 := Tryz.sizeOf9
  v9 := Tryz.zeroValue9
  t20 := Tryz.underlying20
  a20 := Tryz.isAgg20
  z20 := Tryz.sizeOf20
  v20 := Tryz.zeroValue20
  t37 := Tryz.underlying22
  a37 := Tryz.isAgg22
  z37 := Tryz.sizeOf22
  v37 := Tryz.zeroValue22
  t46 := Tryz.underlying138
  a46 := Tryz.isAgg138
  z46 := Tryz.sizeOf138
  v46 := Tryz.zeroValue138
  t51 := Tryz.underlying160
  a51 := Tryz.isAgg160
  z51 := Tryz.sizeOf160
  v51 := Tryz.zeroValue160
  t53 := Tryz.underlying154
  a53 := Tryz.isAgg154
  z53 := Tryz.sizeOf154
  v53 := Tryz.zeroValue154
  t171 := Tryz.underlying172
  a171 := Tryz.isAgg172
  z171 := Tryz.sizeOf172
  v171 := Tryz.zeroValue172
  t173 := Tryz.underlying175
  a173 := Tryz.isAgg175
  z173 := Tryz.sizeOf175
  v173 := Tryz.zeroValue175
  t212 := Tryz.underlying188
  a212 := Tryz.isAgg188
  z212 := Tryz.sizeOf188
  v212 := Tryz.zeroValue188
  t213 := Tryz.underlying189
  a213 := Tryz.isAgg189
  z213 := Tryz.sizeOf189
  t232 := Tryz.underlying203
  a232 := Tryz.isAgg203
  z232 := Tryz.sizeOf203
  v232 := Tryz.zeroValue203
  t233 := Tryz.underlying204
  a233 := Tryz.isAgg204
  z233 := Tryz.sizeOf204
  v233 := Tryz.zeroValue204
  g17 := by kernel_rfl
  g18 := by kernel_rfl
  g19 := by kernel_rfl
  i0 := by kernel_rfl
  i2 := by kernel_rfl
  i3 := by kernel_rfl
  i4 := by kernel_rfl
  i5 := by kernel_rfl
  i9 := by kernel_rfl
  i20 := by kernel_rfl
  i37 := by kernel_rfl
  i46 := by kernel_rfl
  i51 := by kernel_rfl
  i53 := by kernel_rfl
  i171 := by kernel_rfl
  i173 := by kernel_rfl
  i212 := by kernel_rfl
  i232 := by kernel_rfl
  i233 := by kernel_rfl
  m17 := by kernel_rfl
  m18 := by kernel_rfl
  m19 := by kernel_rfl }
open Go.RowKit Go.Sort Go.Lib in
/-- strconv.FormatInt: "FormatInt returns the string representation of i in the given base": AT BASE 10: i's decimal numeral, for every int64. (LAID: no walk: one application.) -/
theorem Tryz.strconv_FormatInt_10 (n : Int) (h0 : -9223372036854775808 ≤ n) (h1 : n ≤ 9223372036854775807) (w : World) (htab : Lib.TabIs Tryz.prog w "internal/strconv.uint64pow10" .u64 Lib.pow10Tab) :
    Calls Tryz.prog 119 #[.int .i64 n, .int .i64 10] w fun e w' => e = .returned (.string ⟨(Lib.itoa n).toArray⟩) ∧ ∃ k os, w' = grow (w.drewN k) os := Any.strconv_FormatInt_10 Tryz.laysM173 n h0 h1 w htab
def Tryz.laysC174_ren : Go.Shelf.Ren := ⟨fun | 174 => 90 | 247 => 123 | 245 => 124 | 287 => 151 | 279 => 152 | 280 => 153 | 281 => 154 | 282 => 155 | 321 => 173 | 322 => 174 | 316 => 175 | 171 => 177 | 205 => 176 | 243 => 190 | 246 => 147 | 283 => 168 | 284 => 169 | 285 => 170 | 286 => 171 | 129 => 186 | 317 => 185 | 318 => 187 | 319 => 188 | 320 => 189 | 337 => 195 | 338 => 196 | n => n, fun | 9 => 9 | 3 => 3 | 2 => 2 | 75 => 110 | 85 => 111 | 4 => 4 | 167 => 153 | 5 => 5 | 53 => 154 | 175 => 155 | 46 => 138 | 168 => 157 | 37 => 22 | 0 => 0 | 210 => 181 | 21 => 21 | 127 => 148 | 145 => 198 | 143 => 196 | 171 => 172 | 173 => 175 | 212 => 188 | 51 => 160 | 20 => 20 | 213 => 189 | 232 => 203 | 233 => 204 | 80 => 131 | n => n, fun | 15 => 1 | 16 => 2 | 17 => 3 | 18 => 6 | 19 => 7 | n => n⟩
theorem Tryz.laysC174 : Go.Proofs.LaysC.n174 Tryz.prog Tryz.laysC174_ren := {
  mixed := by kernel_rfl
  f129 := Tryz.func186.trans (congrArg some (by kernel_rfl))
  f171 := Tryz.func177.trans (congrArg some (by kernel_rfl))
  f174 := Tryz.func90.trans (congrArg some (by kernel_rfl))
  f205 := Tryz.func176.trans (congrArg some (by kernel_rfl))
  f243 := Tryz.func190.trans (congrArg some (by kernel_rfl))
  f245 := Tryz.func124.trans (congrArg some (by kernel_rfl))
  f246 := Tryz.func147.trans (congrArg some (by kernel_rfl))
  f247 := Tryz.func123.trans (congrArg some (by kernel_rfl))
  f279 := Tryz.func152.trans (congrArg some (by kernel_rfl))
  f280 := Tryz.func153.trans (congrArg some (by kernel_rfl))
  f281 := Tryz.func154.trans (congrArg some (by kernel_rfl))
  f282 := Tryz.func155.trans (congrArg some (by kernel_rfl))
  f283 := Tryz.func168.trans (congrArg some (by kernel_rfl))
  f284 := Tryz.func169.trans (congrArg some (by kernel_rfl))
  f285 := Tryz.func170.trans (congrArg some (by kernel_rfl))
  f286 := Tryz.func171.trans (congrArg some (by kernel_rfl))
  f287 := Tryz.func151.trans (congrArg some (by kernel_rfl))
  f316 := Tryz.func175.trans (congrArg some (by kernel_rfl))
  f317 := Tryz.func185.trans (congrArg some (by kernel_rfl))
  f318 := Tryz.func187.trans (congrArg some (by kernel_rfl))
  f319 := Tryz.func188.trans (congrArg some (by kernel_rfl))
  f320 := Tryz.func189.trans (congrArg some (by kernel_rfl))
  f321 := Tryz.func173.trans (congrArg some (by kernel_rfl))
  f322 := Tryz.func174.trans (congrArg some (by kernel_rfl))
  f337 := Tryz.func195.trans (congrArg some (by kernel_rfl))
  f338 := Tryz.func196.trans (congrArg some (by kernel_rfl))
  t0 := Tryz.underlying0
  a0 := Tryz.isAgg0
  z0 := Tryz.sizeOf0
  v0 := Tryz.zeroValue0
  t2 := Tryz.underlying2
  a2 := Tryz.isAgg2
  z2 := Tryz.sizeOf2
  v2 := Tryz.zeroValue2
  t3 := Tryz.underlying3
  a3 := Tryz.isAgg3
  z3 := Tryz.sizeOf3
  v3 := Tryz.zeroValue3
  t4 := Tryz.underlying4
  a4 := Tryz.isAgg4
  z4 := Tryz.sizeOf4
  v4 := Tryz.zeroValue4
  t5 := Tryz.underlying5
  a5 := Tryz.isAgg5
  z5 := Tryz.sizeOf5
  v5 := Tryz.zeroValue5
  t9 := Tryz.underlying9
  a9 := Tryz.isAgg9
  z9 := Tryz.sizeOf9
  v9 := Tryz.zeroValue9
  t20 := Tryz.underlying20
  a20 := Tryz.isAgg20
  z20 := Tryz.sizeOf20
  v20 := Tryz.zeroValue20
  t21 := Tryz.underlying21
  a21 := Tryz.isAgg21
  z21 := Tryz.sizeOf21
  v21 := Tryz.zeroValue21
  t37 := Tryz.underlying22
  a37 := Tryz.isAgg22
  z37 := Tryz.sizeOf22
  v37 := Tryz.zeroValue22
  t46 := Tryz.underlying138
  a46 := Tryz.isAgg138
  z46 := Tryz.sizeOf138
  v46 := Tryz.zeroValue138
  t51 := Tryz.underlying160
  a51 := Tryz.isAgg160
  z51 := Tryz.sizeOf160
  v51 := Tryz.zeroValue160
  t53 := Tryz.underlying154
  a53 := Tryz.isAgg154
  z53 := Tryz.sizeOf154
  v53 := Tryz.zeroValue154
  t75 := Tryz.underlying110
  a75 := Tryz.isAgg110
  z75 := Tryz.sizeOf110
  v75 := Tryz.zeroValue110
  t85 := Tryz.underlying111
  a85 := Tryz.isAgg111
  z85 := Tryz.sizeOf111
  v85 := Tryz.zeroValue111
  t127 := Tryz.underlying148
  a127 := Tryz.isAgg148
  z127 := Tryz.sizeOf148
  v127 := Tryz.zeroValue148
  t143 := Tryz.underlying196
  a143 := Tryz.isAgg196
  z143 := Tryz.sizeOf196
  v143 := Tryz.zeroValue196
  t145 := Tryz.underlying198
  a145 := Tryz.isAgg198
  z145 := Tryz.sizeOf198
  v145 := Tryz.zeroValue198
  t167 := Tryz.underlying153
  a167 := Tryz.isAgg153
  z167 := Tryz.sizeOf153
  v167 := Tryz.zeroValue153
  t168 := Tryz.underlying157
  a168 := Tryz.isAgg157
  z168 := Tryz.sizeOf157
  v168 := Tryz.zeroValue157
  t171 := Tryz.underlying172
  a171 := Tryz.isAgg172
  z171 := Tryz.sizeOf172
  v171 := Tryz.zeroValue172
  t173 := Tryz.underlying175
  a173 := Tryz.isAgg175
  z173 := Tryz.sizeOf175
  v173 := Tryz.zeroValue175
  t175 := Tryz.underlying155
  a175 := Tryz.isAgg155
  z175 := Tryz.sizeOf155
  v175 := Tryz.zeroValue155
  t210 := Tryz.underlying181
  a210 := Tryz.isAgg181
  z210 := Tryz.sizeOf181
  v210 := Tryz.zeroValue181
  t212 := Tryz.underlying188
  a212 := Tryz.isAgg188
  z212 := Tryz.sizeOf188
  v212 := Tryz.zeroValue188
  t213 := Tryz.underlying189
  a213 := Tryz.isAgg189
  z213 := Tryz.sizeOf189
  t232 := Tryz.underlying203
  a232 := Tryz.isAgg203
  z232 := Tryz.sizeOf203
  v232 := Tryz.zeroValue203
  t233 := Tryz.underlying204
  a233 := Tryz.isAgg204
  z233 := Tryz.sizeOf204
  v233 := Tryz.zeroValue204
  g15 := by kernel_rfl
  g16 := by kernel_rfl
  g17 := by kernel_rfl
  g18 := by kernel_rfl
  g19 := by kernel_rfl
  t80 := Tryz.underlying131
  a80 := Tryz.isAgg131
  z80 := Tryz.sizeOf131
  v80 := Tryz.zeroValue131
  i0 := by kernel_rfl
  i2 := by kernel_rfl
  i3 := by kernel_rfl
  i4 := by kernel_rfl
  i5 := by kernel_rfl
  i9 := by kernel_rfl
  i20 := by kernel_rfl
  i21 := by kernel_rfl
  i37 := by kernel_rfl
  i46 := by kernel_rfl
  i51 := by kernel_rfl
  i53 := by kernel_rfl
  i75 := by kernel_rfl
  i80 := by kernel_rfl
  i85 := by kernel_rfl
  i127 := by kernel_rfl
  i143 := by kernel_rfl
  i145 := by kernel_rfl
  i167 := by kernel_rfl
  i168 := by kernel_rfl
  i171 := by kernel_rfl
  i173 := by kernel_rfl
  i175 := by kernel_rfl
  i210 := by kernel_rfl
  i212 := by kernel_rfl
  i232 := by kernel_rfl
  i233 := by kernel_rfl
  m15 := by kernel_rfl
  m16 := by kernel_rfl
  m17 := by kernel_rfl
  m18 := by kernel_rfl
  m19 := by kernel_rfl
  c0 := by kernel_rfl
  c2 := by kernel_rfl
  c3 := by kernel_rfl
  c4 := by kernel_rfl
  c5 := by kernel_rfl
  c9 := by kernel_rfl
  c20 := by kernel_rfl
  c21 := by kernel_rfl
  c37 := by kernel_rfl
  c46 := by kernel_rfl
  c51 := by kernel_rfl
  c53 := by kernel_rfl
  c75 := by kernel_rfl
  c80 := by kernel_rfl
  c85 := by kernel_rfl
  c127 := by kernel_rfl
  c143 := by kernel_rfl
  c145 := by kernel_rfl
  c167 := by kernel_rfl
  c168 := by kernel_rfl
  c171 := by kernel_rfl
  c173 := by kernel_rfl
  c175 := by kernel_rfl
  c210 := by kernel_rfl
  c212 := by kernel_rfl
  c213 := by kernel_rfl
  c232 := by kernel_rfl
  c233 := by kernel_rfl }
open Go.RowKit in
/-- strconv.ParseInt(s, 10, 64), AT EVERY STRING THAT SPELLS AN int64 ('Lib.parseIntB 64 s.data.toList = .ok v'): v, AND NO ERROR. (LAID: no walk: one application.) -/
theorem Tryz.strconv_ParseInt_10_at64_ok (s : ByteArray) (hmax : s.size ≤ 9223372036854775806) (v : Int) (h : Lib.parseIntB 64 s.data.toList = .ok v) (w : World) :
    Calls Tryz.prog 90 #[.string s, .int .i64 10, .int .i64 64] w fun e w' => e = .returned (.tuple #[.int .i64 v, .nilIface]) ∧ (w' = w ∨ ∃ t, w' = Lib.bytesWorld w 5 t) := Any.strconv_ParseInt_10_at64_ok Tryz.laysC174 s hmax v h w
open Go.RowKit in
/-- strconv.ParseInt(s, 10, 64), AT EVERY STRING THAT IS NO DECIMAL NUMERAL: 0, AND AN ERROR THAT IS NOT nil: a *NumError in a new block N: {Func: "ParseInt", Num: s's bytes, Err: what the variable ErrSyntax holds}. Of what was there nothing has turned. (LAID: no walk: one application.) -/
theorem Tryz.strconv_ParseInt_10_at64_syntax (s : ByteArray) (hlim : s.size ≤ 281474976710656) (h : Lib.parseIntB 64 s.data.toList = Lib.parseIntB 64 []) (ev : Value) (w : World) (hv : w.cell? ⟨1, 0, none⟩ = some ev) (hev : ev = .nilIface ∨ ∃ te pe, ev = .iface te pe) :
    Calls Tryz.prog 90 #[.string s, .int .i64 10, .int .i64 64] w fun e w' => ∃ N, e = .returned (.tuple #[.int .i64 (0), .iface 157 (.pointer (some ⟨N, 0, none⟩))]) ∧ w.heap.size ≤ N ∧ w'.heap[N]? = some (.cells #[.string ⟨#[80, 97, 114, 115, 101, 73, 110, 116]⟩, .string s, ev] 181 (0, 0)) ∧ Below w.heap.size w w' := Any.strconv_ParseInt_10_at64_syntax Tryz.laysC174 s hlim h ev w hv hev
open Go.RowKit in
/-- strconv.ParseInt(s, 10, 64), AT EVERY NUMERAL THAT NO int64 HOLDS: THE GREATEST OR THE LEAST int64, BY THE SIGN ('Lib.intSat 64'), AND AN ERROR THAT IS NOT nil: a *NumError in a new block N: {Func: "ParseInt", Num: s's bytes, Err: what the variable ErrRange holds}. Of what was there nothing has turned. (LAID: no walk: one application.) -/
theorem Tryz.strconv_ParseInt_10_at64_range (s : ByteArray) (hlim : s.size ≤ 281474976710656) (h : Lib.parseIntB 64 s.data.toList = .range) (ev : Value) (w : World) (hv : w.cell? ⟨2, 0, none⟩ = some ev) (hev : ev = .nilIface ∨ ∃ te pe, ev = .iface te pe) :
    Calls Tryz.prog 90 #[.string s, .int .i64 10, .int .i64 64] w fun e w' => ∃ N, e = .returned (.tuple #[.int .i64 (Lib.intSat 64 s.data.toList), .iface 157 (.pointer (some ⟨N, 0, none⟩))]) ∧ w.heap.size ≤ N ∧ w'.heap[N]? = some (.cells #[.string ⟨#[80, 97, 114, 115, 101, 73, 110, 116]⟩, .string s, ev] 181 (0, 0)) ∧ Below w.heap.size w w' := Any.strconv_ParseInt_10_at64_range Tryz.laysC174 s hlim h ev w hv hev
def Tryz.lays99_ren : Go.Shelf.Ren := ⟨fun | 99 => 112 | 206 => 144 | n => n, fun | 9 => 9 | 4 => 4 | 3 => 3 | n => n, fun | n => n⟩
theorem Tryz.lays99 : Go.Proofs.Lays.n99 Tryz.prog Tryz.lays99_ren := {
  mixed := by kernel_rfl
  f99 := Tryz.func112.trans (congrArg some (by kernel_rfl))
  f206 := Tryz.func144.trans (congrArg some (by kernel_rfl))
  t3 := Tryz.underlying3
  a3 := Tryz.isAgg3
  z3 := Tryz.sizeOf3
  v3 := Tryz.zeroValue3
  t4 := Tryz.underlying4
  a4 := Tryz.isAgg4
  z4 := Tryz.sizeOf4
  v4 := Tryz.zeroValue4
  t9 := Tryz.underlying9
  a9 := Tryz.isAgg9
  z9 := Tryz.sizeOf9
  v9 := Tryz.zeroValue9 }
open Go.RowKit Go.Lib in
/-- strings.HasPrefix: "HasPrefix reports whether the string s begins with prefix.": IT RETURNS 'Lib.hasPrefix s prefix'; the world is as it was. (LAID: no walk: one application.) -/
theorem Tryz.strings_HasPrefix (s p : ByteArray) (w : World) :
    Calls Tryz.prog 112 #[.string s, .string p] w fun e w' => e = .returned (.bool (Lib.hasPrefix s.data.toList p.data.toList)) ∧ w' = w := Any.strings_HasPrefix Tryz.lays99 s p w
def Tryz.lays146_ren : Go.Shelf.Ren := ⟨fun | 146 => 43 | 221 => 89 | 268 => 121 | 138 => 122 | 143 => 46 | 195 => 148 | 197 => 149 | 218 => 150 | 219 => 91 | 260 => 172 | 217 => 125 | 225 => 126 | 224 => 127 | 267 => 128 | 266 => 156 | 314 => 157 | n => n, fun | 9 => 9 | 31 => 67 | 3 => 3 | 4 => 4 | 0 => 0 | 105 => 151 | 21 => 21 | 5 => 5 | 46 => 138 | 119 => 192 | 139 => 195 | 138 => 194 | 146 => 161 | 51 => 160 | n => n, fun | 1 => 0 | 3 => 4 | 4 => 5 | n => n⟩
theorem Tryz.lays146 : Go.Proofs.Lays.n146 Tryz.prog Tryz.lays146_ren := {
  mixed := by kernel_rfl
  f138 := Tryz.func122.trans (congrArg some (by kernel_rfl))
  f143 := Tryz.func46.trans (congrArg some (by kernel_rfl))
  f146 := Tryz.func43.trans (congrArg some (by kernel_rfl))
  f195 := Tryz.func148.trans (congrArg some (by kernel_rfl))
  f197 := Tryz.func149.trans (congrArg some (by kernel_rfl))
  f217 := Tryz.func125.trans (congrArg some (by kernel_rfl))
  f218 := Tryz.func150.trans (congrArg some (by kernel_rfl))
  f219 := Tryz.func91.trans (congrArg some (by kernel_rfl))
  f221 := Tryz.func89.trans (congrArg some (by kernel_rfl))
  f224 := Tryz.func127.trans (congrArg some (by kernel_rfl))
  f225 := Tryz.func126.trans (congrArg some (by kernel_rfl))
  f260 := Tryz.func172.trans (congrArg some (by kernel_rfl))
  f266 := Tryz.func156.trans (congrArg some (by kernel_rfl))
  f267 := Tryz.func128.trans (congrArg some (by kernel_rfl))
  f268 := Tryz.func121.trans (congrArg some (by kernel_rfl))
  f314 := Tryz.func157.trans (congrArg some (by kernel_rfl))
  t0 := Tryz.underlying0
  a0 := Tryz.isAgg0
  z0 := Tryz.sizeOf0
  v0 := Tryz.zeroValue0
  t3 := Tryz.underlying3
  a3 := Tryz.isAgg3
  z3 := Tryz.sizeOf3
  v3 := Tryz.zeroValue3
  t4 := Tryz.underlying4
  a4 := Tryz.isAgg4
  z4 := Tryz.sizeOf4
  v4 := Tryz.zeroValue4
  t5 := Tryz.underlying5
  a5 := Tryz.isAgg5
  z5 := Tryz.sizeOf5
  v5 := Tryz.zeroValue5
  t9 := Tryz.underlying9
  a9 := Tryz.isAgg9
  z9 := Tryz.sizeOf9
  v9 := Tryz.zeroValue9
  t21 := Tryz.underlying21
  a21 := Tryz.isAgg21
  z21 := Tryz.sizeOf21
  v21 := Tryz.zeroValue21
  t31 := Tryz.underlying67
  a31 := Tryz.isAgg67
  z31 := Tryz.sizeOf67
  v31 := Tryz.zeroValue67
  t46 := Tryz.underlying138
  a46 := Tryz.isAgg138
  z46 := Tryz.sizeOf138
  v46 := Tryz.zeroValue138
  t51 := Tryz.underlying160
  a51 := Tryz.isAgg160
  z51 := Tryz.sizeOf160
  v51 := Tryz.zeroValue160
  t105 := Tryz.underlying151
  a105 := Tryz.isAgg151
  z105 := Tryz.sizeOf151
  v105 := Tryz.zeroValue151
  t119 := Tryz.underlying192
  a119 := Tryz.isAgg192
  z119 := Tryz.sizeOf192
  t138 := Tryz.underlying194
  a138 := Tryz.isAgg194
  z138 := Tryz.sizeOf194
  v138 := Tryz.zeroValue194
  t139 := Tryz.underlying195
  a139 := Tryz.isAgg195
  z139 := Tryz.sizeOf195
  v139 := Tryz.zeroValue195
  t146 := Tryz.underlying161
  a146 := Tryz.isAgg161
  z146 := Tryz.sizeOf161
  v146 := Tryz.zeroValue161
  g1 := by kernel_rfl
  g3 := by kernel_rfl
  g4 := by kernel_rfl }
open Go.RowKit Go.Lib in
/-- strings.Split. (LAID: no walk: one application.) -/
theorem Tryz.strings_Split (s sep : ByteArray) (m : Int) (w : World) (hs : s.size < 4294967281) (hm : w.cell? ⟨0, 0, none⟩ = some (.int .i64 m)) (h1 : 1 ≤ sep.size) :
    Calls Tryz.prog 43 #[.string s, .string sep] w fun e w' =>
      e = .returned (.slice (some ⟨w.heap.size, 0, none⟩) (Lib.countB s sep + 1) (Lib.countB s sep + 1)) ∧ w' = w.alloc (.cells ((Lib.splitB sep 0 (Lib.countB s sep) s).map Value.string).toArray 9) := Any.strings_Split Tryz.lays146 (by kernel_rfl) s sep m w hs hm h1
def Tryz.laysM146_ren : Go.Shelf.Ren := ⟨fun | 146 => 43 | 221 => 89 | 268 => 121 | 138 => 122 | 143 => 46 | 195 => 148 | 197 => 149 | 218 => 150 | 219 => 91 | 260 => 172 | 217 => 125 | 225 => 126 | 224 => 127 | 267 => 128 | 266 => 156 | 314 => 157 | n => n, fun | 9 => 9 | 31 => 67 | 3 => 3 | 4 => 4 | 0 => 0 | 105 => 151 | 21 => 21 | 5 => 5 | 46 => 138 | 119 => 192 | 139 => 195 | 138 => 194 | 146 => 161 | 51 => 160 | n => n, fun | 1 => 0 | 3 => 4 | 4 => 5 | n => n⟩
theorem Tryz.laysM146 : Go.Proofs.LaysM.n146 Tryz.prog Tryz.laysM146_ren := {
  mixed := by kernel_rfl
  f138 := Tryz.func122.trans (congrArg some (by kernel_rfl))
  f143 := Tryz.func46.trans (congrArg some (by kernel_rfl))
  f146 := Tryz.func43.trans (congrArg some (by kernel_rfl))
  f195 := Tryz.func148.trans (congrArg some (by kernel_rfl))
  f197 := Tryz.func149.trans (congrArg some (by kernel_rfl))
  f217 := Tryz.func125.trans (congrArg some (by kernel_rfl))
  f218 := Tryz.func150.trans (congrArg some (by kernel_rfl))
  f219 := Tryz.func91.trans (congrArg some (by kernel_rfl))
  f221 := Tryz.func89.trans (congrArg some (by kernel_rfl))
  f224 := Tryz.func127.trans (congrArg some (by kernel_rfl))
  f225 := Tryz.func126.trans (congrArg some (by kernel_rfl))
  f260 := Tryz.func172.trans (congrArg some (by kernel_rfl))
  f266 := Tryz.func156.trans (congrArg some (by kernel_rfl))
  f267 := Tryz.func128.trans (congrArg some (by kernel_rfl))
  f268 := Tryz.func121.trans (congrArg some (by kernel_rfl))
  f314 := Tryz.func157.trans (congrArg some (by kernel_rfl))
  t0 := Tryz.underlying0
  a0 := Tryz.isAgg0
  z0 := Tryz.sizeOf0
  v0 := Tryz.zeroValue0
  t3 := Tryz.underlying3
  a3 := Tryz.isAgg3
  z3 := Tryz.sizeOf3
  v3 := Tryz.zeroValue3
  t4 := Tryz.underlying4
  a4 := Tryz.isAgg4
  z4 := Tryz.sizeOf4
  v4 := Tryz.zeroValue4
  t5 := Tryz.underlying5
  a5 := Tryz.isAgg5
  z5 := Tryz.sizeOf5
  v5 := Tryz.zeroValue5
  t9 := Tryz.underlying9
  a9 := Tryz.isAgg9
  z9 := Tryz.sizeOf9
  v9 := Tryz.zeroValue9
  t21 := Tryz.underlying21
  a21 := Tryz.isAgg21
  z21 := Tryz.sizeOf21
  v21 := Tryz.zeroValue21
  t31 := Tryz.underlying67
  a31 := Tryz.isAgg67
  z31 := Tryz.sizeOf67
  v31 := Tryz.zeroValue67
  t46 := Tryz.underlying138
  a46 := Tryz.isAgg138
  z46 := Tryz.sizeOf138
  v46 := Tryz.zeroValue138
  t51 := Tryz.underlying160
  a51 := Tryz.isAgg160
  z51 := Tryz.sizeOf160
  v51 := Tryz.zeroValue160
  t105 := Tryz.underlying151
  a105 := Tryz.isAgg151
  z105 := Tryz.sizeOf151
  v105 := Tryz.zeroValue151
  t119 := Tryz.underlying192
  a119 := Tryz.isAgg192
  z119 := Tryz.sizeOf192
  t138 := Tryz.underlying194
  a138 := Tryz.isAgg194
  z138 := Tryz.sizeOf194
  v138 := Tryz.zeroValue194
  t139 := Tryz.underlying195
  a139 := Tryz.isAgg195
  z139 := Tryz.sizeOf195
  v139 := Tryz.zeroValue195
  t146 := Tryz.underlying161
  a146 := Tryz.isAgg161
  z146 := Tryz.sizeOf161
  v146 := Tryz.zeroValue161
  g1 := by kernel_rfl
  g3 := by kernel_rfl
  g4 := by kernel_rfl
  i0 := by kernel_rfl
  i3 := by kernel_rfl
  i4 := by kernel_rfl
  i5 := by kernel_rfl
  i9 := by kernel_rfl
  i21 := by kernel_rfl
  i31 := by kernel_rfl
  i46 := by kernel_rfl
  i51 := by kernel_rfl
  i105 := by kernel_rfl
  i138 := by kernel_rfl
  i139 := by kernel_rfl
  i146 := by kernel_rfl
  m1 := by kernel_rfl
  s1_3 := fun w h => Go.Proofs.cell_of_shapedOpen_int (zero := #[.int .i64 0]) (t := 3) h (of_decide_eq_true (by kernel_rfl)) (by kernel_rfl) rfl (by kernel_rfl) (by kernel_rfl) Tryz.underlying3
  m3 := by kernel_rfl
  m4 := by kernel_rfl }
end Go.Proofs
end
section
namespace Go.K
open Go.RowKit
theorem var_ext {P : Program} {w w' : World} {n : String} {cs : Array Value} (h : w.var? P n = some cs) (e : Ext w w') : w'.var? P n = some cs := by
  unfold World.var? at h ⊢
  cases hg : P.globalNamed n with
  | none => rw [hg] at h; cases h
  | some g =>
    rw [hg] at h
    simp only [Option.bind_some] at h ⊢
    cases ho : w.heap[g]? with
    | none => rw [ho] at h; cases h
    | some o =>
      rw [e.block ho]
      rw [ho] at h
      exact h
/-- the table of the powers of ten -/
structure TabV (P : Program) (w : World) : Prop where
  tab : Lib.TabIs P w "internal/strconv.uint64pow10" .u64 Lib.pow10Tab
theorem TabV.ext {P : Program} {w w' : World} (h : TabV P w) (e : Ext w w') : TabV P w' := ⟨var_ext h.tab e⟩
/-- what the library's functions ask of its variables -/
structure LibV (P : Program) (gM gS gR : Nat) (w : World) : Prop where
  tab : Lib.TabIs P w "internal/strconv.uint64pow10" .u64 Lib.pow10Tab
  maxl : ∃ m, w.cell? ⟨gM, 0, none⟩ = some (.int .i64 m)
  syn : ∃ ev, w.cell? ⟨gS, 0, none⟩ = some ev ∧ (ev = .nilIface ∨ ∃ te pe, ev = .iface te pe)
  rng : ∃ ev, w.cell? ⟨gR, 0, none⟩ = some ev ∧ (ev = .nilIface ∨ ∃ te pe, ev = .iface te pe)
theorem LibV.ext {P : Program} {gM gS gR : Nat} {w w' : World} (h : LibV P gM gS gR w) (e : Ext w w') : LibV P gM gS gR w' :=
  ⟨var_ext h.tab e, let ⟨m, hm⟩ := h.maxl; ⟨m, e.cell_of hm⟩, let ⟨v, hv, hh⟩ := h.syn; ⟨v, e.cell_of hv, hh⟩, let ⟨v, hv, hh⟩ := h.rng; ⟨v, e.cell_of hv, hh⟩⟩
theorem LibV.t {P : Program} {gM gS gR : Nat} {w : World} (h : LibV P gM gS gR w) : TabV P w := ⟨h.tab⟩
theorem str_beq (a b : ByteArray) : (a.toList == b.toList) = decide (a = b) := by
  rw [ByteArray.toList_eq, ByteArray.toList_eq]
  by_cases h : a = b
  · subst h; simp
  · rw [decide_eq_false h, beq_eq_false_iff_ne]
    intro e
    exact h (by rw [← Z.str_list a, ← Z.str_list b, e])
theorem cut_str {P : Program} {t : TypeId} {s : ByteArray} {i j : Nat} {a b : Int} (h : P.underlying t = some .string) (ha : a = (i : Int)) (hb : b = (j : Int)) (h1 : i ≤ j) (h2 : j ≤ s.size) (w : World) :
    (Instr.slice t (.string s) (some (.int .i64 a)) (some (.int .i64 b)) none).run P w = .ok (.string (s.extract i j)) w := by
  subst ha hb
  have := run_slice_string (P := P) w t s .i64 .i64 (i : Int) (j : Int) h (by omega) (by omega) (by omega)
  simpa using this
end Go.K
namespace Go.Proofs.YtmgocfdhngeeiaaGreatDoor
open Go.RowKit
/-- .. at this program -/
abbrev LTab (w : World) : Prop := K.TabV Tryz.prog w
abbrev LV (w : World) : Prop := K.LibV Tryz.prog 0 1 2 w
theorem decimal_any (n : Int) (w : World) (h0 : -9223372036854775808 ≤ n) (h1 : n ≤ 9223372036854775807) (hL : LTab w) :
    Calls Tryz.prog 87 #[.int .i64 n] w fun e w' => e = .returned (.string (Z.dec n)) ∧ K.Ext w w' := by
  go_enter Tryz.func87, Tryz.ntmps87
  go_wp2_with fail
  refine K.call (by with_reducible rfl) (by with_reducible rfl) (Tryz.strconv_FormatInt_10 n h0 h1 w hL.tab) ?_
  rintro e w1 ⟨rfl, k, os, rfl⟩
  go_wp2_with fail
  go_ret
  exact ⟨rfl, Lib.below_grow _ _ (Nat.le_refl _) _ _⟩
set_option maxRecDepth 100000 in
set_option maxHeartbeats 6400000 in
theorem l01Dec_any (u : Nat) : ∀ (w : World) (hu : u < 1000000000000000000),
    Calls Tryz.prog 120 #[.int .i64 (u : Int)] w fun e w' => e = .returned (.string (Z.str (Lib.decDigits u))) ∧ K.Ext w w' := by
  induction u using Nat.strongRecOn with
  | _ u ih =>
    intro w hu
    have hm : (u % 10 : Nat) < 10 := Nat.mod_lt _ (by decide)
    by_cases h : u < 10
    · have h10 : (u : Int) < 10 := by omega
      have q1 : IntKind.i64.wrap (48 + (u : Int)) = 48 + (u : Int) := IntWalk.i64_in _ (by omega)
      have q2 : IntKind.u8.wrap (48 + (u : Int)) = 48 + (u : Int) := IntWalk.u8_in _ (by omega)
      have hcv := K.byte_str (P := Tryz.prog) (w := w.alloc (.cells #[.int .u8 (48 + (u : Int))] 5)) (src := 22) (dst := 9) (c := 48 + (u : Int)) Tryz.underlying22 Tryz.underlying5 Tryz.underlying9 (by omega) (by omega) (K.block_new rfl)
      go_enter Tryz.func120, Tryz.ntmps120
      go_wp2
      go_ret
      refine ⟨?_, (K.Ext.refl _).alloc _⟩
      rw [Lib.decDigits_one h]
      rfl
    · have h10 : ¬ (u : Int) < 10 := by omega
      have q0 : (u : Int).tdiv 10 = ((u / 10 : Nat) : Int) := by rw [Int.tdiv_eq_ediv_of_nonneg (by omega)]; omega
      have q0' : (u : Int).tmod 10 = ((u % 10 : Nat) : Int) := by rw [Int.tmod_eq_emod_of_nonneg (by omega)]; omega
      obtain ⟨d, hd⟩ : ∃ d : Int, d = ((u / 10 : Nat) : Int) := ⟨_, rfl⟩
      obtain ⟨r, hr⟩ : ∃ r : Int, r = 48 + ((u % 10 : Nat) : Int) := ⟨_, rfl⟩
      have r0 : 0 ≤ r := by omega
      have r1 : r ≤ 255 := by omega
      have hdec : Lib.decDigits u = Lib.decDigits (u / 10) ++ [UInt8.ofNat r.toNat] := by
        rw [Lib.decDigits, dif_neg h, show r.toNat = 48 + u % 10 by omega]
      have hs : (Z.str (Lib.decDigits (u / 10))).size ≤ 18 := by rw [Z.str_size]; exact Z.decDigits_le (k := 17) (by omega)
      have IH : ∀ w', Calls Tryz.prog 120 #[.int .i64 d] w' fun e w'' => e = .returned (.string (Z.str (Lib.decDigits (u / 10)))) ∧ K.Ext w' w'' := fun w' => by rw [hd]; exact ih (u / 10) (by omega) w' (by omega)
      have hres : Z.str (Lib.decDigits (u / 10)) ++ ⟨#[UInt8.ofNat r.toNat]⟩ = Z.str (Lib.decDigits u) := by rw [hdec, ← Z.str_append]; rfl
      have q1 : IntKind.i64.wrap ((u : Int).tdiv 10) = d := by rw [q0, ← hd]; exact IntWalk.i64_in _ (by omega)
      have q2 : IntKind.i64.wrap (48 + (u : Int).tmod 10) = r := by rw [q0', ← hr]; exact IntWalk.i64_in _ (by omega)
      have q3 : IntKind.u8.wrap r = r := IntWalk.u8_in _ (by omega)
      obtain ⟨S, hS⟩ : ∃ S, S = Z.str (Lib.decDigits (u / 10)) := ⟨_, rfl⟩
      rw [← hS] at hs hres
      have IH' : ∀ w', Calls Tryz.prog 120 #[.int .i64 d] w' fun e w'' => e = .returned (.string S) ∧ K.Ext w' w'' := fun w' => by rw [hS]; exact IH w'
      have hov : ¬ (9223372036854775807 < S.size + 1) := by omega
      obtain ⟨U, hU⟩ : ∃ U : Int, U = (u : Int) := ⟨_, rfl⟩
      rw [← hU] at q1 q2 h10 ⊢
      clear hd hr IH q0 q0' hS hdec hU
      go_enter Tryz.func120, Tryz.ntmps120
      go_wp2_with fail
      refine K.wp_region_x 10 [0, 0, 2, 0, 0, 0, 0, 2, 2, 0] [K.SP.any, K.SP.any, K.SP.is (.string S), K.SP.any, K.SP.any, K.SP.any, K.SP.any, K.SP.sl (w.heap.size) (.cells #[.int .u8 r] 5), K.SP.is (.string ⟨#[UInt8.ofNat r.toNat]⟩)] (by kernel_rfl) (by kernel_rfl) ?_
      simp only [List.take_succ_cons, List.take_zero, List.drop_succ_cons, List.drop_zero]
      iterate 2
        refine K.xp ?_
        simp only [Act.put, List.setIfInBounds_toArray, List.set]
      apply K.x_call_is
      · rfl
      · rfl
      · rfl
      · intro w'; go_simp; first | done | rfl | exact ⟨rfl, rfl⟩
      · intro w' hx hp; have hc := hx.all.1.1; have hf := hx.all.1.2; have hc' := hx.all.2.1; have hf' := hx.all.2.2; exact IH' _
      intro w_2_ hx_2_
      simp only [Act.put, List.setIfInBounds_toArray, List.set]
      iterate 4
        refine K.xp ?_
        simp only [Act.put, List.setIfInBounds_toArray, List.set]
      apply K.x_newsl
      · rfl
      · rfl
      · rfl
      · go_simp; first | done | omega
      · intro w'; go_simp; first | done | rfl | exact ⟨rfl, rfl⟩
      intro g3_7 w_7_ hx_7_ hg3_7 hb_7_
      simp only [Act.put, List.setIfInBounds_toArray, List.set]
      apply K.x_op_is
      · rfl
      · rfl
      · rfl
      · intro w' hx hp; have hc := hx.all.1.1; have hf := hx.all.1.2; have hc' := hx.all.2.1; have hf' := hx.all.2.2; have hq_ := K.byte_str (P := Tryz.prog) (src := 22) (dst := 9) Tryz.underlying22 Tryz.underlying5 Tryz.underlying9 r0 r1 (K.SP.sl_at (hp 7 _ (by kernel_rfl) rfl rfl)); go_simp; first | done | rfl
      intro w_8_ hx_8_
      simp only [Act.put, List.setIfInBounds_toArray, List.set]
      refine K.xp ?_
      simp only [Act.put, List.setIfInBounds_toArray, List.set]
      apply K.x_done
      intro w2 h_x
      have hx2 := hx_2_.trans (hx_7_.trans (hx_8_.trans h_x))
      have hb3_7 := K.Ext.block (hx_8_.trans h_x) hb_7_
      have cg3_7_0 : w2.cell? ⟨g3_7, 0, none⟩ = some (.int .u8 r) := K.cell_at hb3_7 rfl
      have fg3_7_0 : w2.frozen? ⟨g3_7, 0, none⟩ = false := K.thaw_at hb3_7
      clear h_x hx_2_ hx_7_ hx_8_
      obtain ⟨⟨hcw2, hfw2⟩, hc'w2, hf'w2⟩ := hx2.all
      go_wp2_with fail
      refine NoPanic.normal ?_
      go_wp2
      go_ret
      exact ⟨by rw [← hres]; rfl, K.bel⟩
set_option maxRecDepth 100000 in
theorem l01Number_any (n : Int) (w : World) (h0 : -1000000000000000000 < n) (h1 : n < 1000000000000000000) :
    Calls Tryz.prog 88 #[.int .i64 n] w fun e w' => e = .returned (.string (Z.dec n)) ∧ K.Ext w w' := by
  rcases Z.int_cases n with ⟨u, rfl⟩ | ⟨u, hu, rfl⟩
  · have hn : ¬ (u : Int) < 0 := by omega
    have he : Z.dec (u : Int) = Z.str (Lib.decDigits u) := by unfold Z.dec; rw [Z.itoa_nat]
    have IH := l01Dec_any u
    rw [← he] at IH
    obtain ⟨S, hS⟩ : ∃ S, S = Z.dec (u : Int) := ⟨_, rfl⟩
    rw [← hS] at IH ⊢
    obtain ⟨U, hU⟩ : ∃ U : Int, U = (u : Int) := ⟨_, rfl⟩
    rw [← hU] at IH hn ⊢
    have hb : u < 1000000000000000000 := by omega
    clear he hS hU
    go_enter Tryz.func88, Tryz.ntmps88
    go_wp2_with fail
    refine K.call (by with_reducible rfl) (by with_reducible rfl) (IH _ hb) ?_
    rintro e w1 ⟨rfl, f1⟩
    go_wp2
    go_ret
    exact ⟨rfl, f1⟩
  · have hn : -(u : Int) < 0 := by omega
    have he : Z.dec (-(u : Int)) = ⟨#[45]⟩ ++ Z.str (Lib.decDigits u) := by
      unfold Z.dec; rw [Z.itoa_neg hu]
      exact (Z.str_append [45] _).symm
    have IH := l01Dec_any u
    have hsz : (Z.str (Lib.decDigits u)).size ≤ 18 := by rw [Z.str_size]; exact Z.decDigits_le (k := 17) (by omega)
    obtain ⟨S, hS⟩ : ∃ S, S = Z.str (Lib.decDigits u) := ⟨_, rfl⟩
    rw [← hS] at IH hsz he
    rw [he]
    obtain ⟨U, hU⟩ : ∃ U : Int, U = -(u : Int) := ⟨_, rfl⟩
    obtain ⟨V, hV⟩ : ∃ V : Int, V = (u : Int) := ⟨_, rfl⟩
    rw [← hV] at IH
    rw [← hU] at hn ⊢
    have q1 : IntKind.i64.wrap (-U) = V := by rw [hU, hV, Int.neg_neg]; exact IntWalk.i64_in _ (by omega)
    have hov : ¬ (9223372036854775807 < 1 + S.size) := by omega
    have hb : u < 1000000000000000000 := by omega
    clear he hS hU hV
    go_enter Tryz.func88, Tryz.ntmps88
    go_wp2_with fail
    refine K.call (by with_reducible rfl) (by with_reducible rfl) (IH _ hb) ?_
    rintro e w1 ⟨rfl, f1⟩
    go_wp2
    go_ret
    exact ⟨rfl, f1⟩
end Go.Proofs.YtmgocfdhngeeiaaGreatDoor
end
section
namespace Go.Z
/-- the text of a figure -/
def figText (d t : Int) : ByteArray := ((((dec d).extract 0 1 ++ ⟨#[46]⟩) ++ (dec d).extract 1 4) ++ ⟨#[101]⟩) ++ dec t
theorem dec4 {d : Int} (h : 1000 ≤ d) (h' : d ≤ 9999) : (dec d).size = 4 := by
  obtain ⟨u, rfl⟩ : ∃ u : Nat, d = u := ⟨d.toNat, by omega⟩
  unfold dec; rw [itoa_nat, str_size, Lib.decDigits_length, Lib.nDigits_unique 3 u (by omega) (by omega)]
/-- the text of one letter with its exponent -/
def partText (nm : ByteArray) (x : Int) (i : Nat) : ByteArray := if x == 1 then ⟨#[42]⟩ ++ nm.extract i (i + 1) else (⟨#[42]⟩ ++ nm.extract i (i + 1)) ++ (⟨#[94]⟩ ++ dec x)
def fmTextK (F : Fm) : Nat → ByteArray
  | 0 => figText F.dg F.tn
  | k + 1 => fmTextK F k ++ partText F.nm (F.pw.getD k 0) k
def fmText (F : Fm) : ByteArray := fmTextK F F.nm.size
end Go.Z
namespace Go.Proofs.YtmgocfdhngeeiaaGreatDoor
open Go.RowKit
end Go.Proofs.YtmgocfdhngeeiaaGreatDoor
end
section
namespace Go.Z
def FormulaText (F : Fm) : ByteArray × Int := if isFormula F then (fmText F, 0) else (⟨#[]⟩, 1)
end Go.Z
namespace Go.Proofs.YtmgocfdhngeeiaaGreatDoor
open Go.RowKit
end Go.Proofs.YtmgocfdhngeeiaaGreatDoor
end
section
namespace Go.Z
/-- the program's reading of a number -/
def number (s : ByteArray) : Int × Bool :=
  match Lib.parseIntB 64 s.data.toList with
  | .ok v => if dec v = s then (v, true) else (0, false)
  | _ => (0, false)
theorem number_dec {n : Int} (h : -9223372036854775808 ≤ n) (h' : n ≤ 9223372036854775807) : number (dec n) = (n, true) := by
  unfold number
  rw [show (dec n).data.toList = Lib.itoa n by unfold dec; rw [str_bytes], parse_itoa h h']
  simp
theorem digit_yes {b : UInt8} (h : 48 ≤ b.toNat) (h' : b.toNat ≤ 57) : Lib.digitVal b = some (b.toNat - 48) := by unfold Lib.digitVal; rw [if_pos ⟨h, h'⟩]
theorem digit_no {b : UInt8} (h : b.toNat < 48 ∨ 57 < b.toNat) : Lib.digitVal b = none := by unfold Lib.digitVal; rw [if_neg (by omega)]
theorem value_bad {l : List UInt8} {k : Nat} {b : UInt8} (hk : l[k]? = some b) (hb : Lib.digitVal b = none) : value l = (0, false) := by
  unfold value
  split
  · cases hd : Lib.decFrom 0 l with
    | none => rfl
    | some u =>
      obtain ⟨d, hd'⟩ := Lib.digit_of_decFrom l 0 u hd k b hk
      rw [hb] at hd'; cases hd'
  · rfl
theorem value_good {l : List UInt8} {u : Nat} (h1 : 1 ≤ l.length) (h2 : l.length ≤ 13) (hd : Lib.decFrom 0 l = some u) : value l = ((u : Int), decide (str (Lib.decDigits u) = str l)) := by
  unfold value
  rw [if_pos ⟨h1, h2⟩, hd]
  simp only
  congr 1
  rw [decide_eq_decide]
  exact ⟨fun h => by rw [h], str_inj⟩
theorem value_len {l : List UInt8} (h : l.length < 1 ∨ 13 < l.length) : value l = (0, false) := by unfold value; rw [if_neg (by omega)]
theorem dec_step {l : List UInt8} {k u : Nat} {b : UInt8} (h : Lib.decFrom 0 (l.take k) = some u) (hk : l[k]? = some b) (h0 : 48 ≤ b.toNat) (h1 : b.toNat ≤ 57) (hl : l.length ≤ 13) :
    Lib.decFrom 0 (l.take (k + 1)) = some (u * 10 + (b.toNat - 48)) ∧ u * 10 + (b.toNat - 48) < 10000000000000 := by
  have := Lib.decFrom_take l k 0 u b _ h hk (digit_yes h0 h1)
  refine ⟨this, ?_⟩
  have hb := Lib.decFrom_lt _ 0 _ this
  have h13 : 10 ^ (l.take (k + 1)).length ≤ 10 ^ 13 := Nat.pow_le_pow_right (by decide) (by simp; omega)
  omega
theorem signed_minus {s : ByteArray} (h : 0 < s.size) (hb : (s[0]'h).toNat = 45) : signed s.data.toList = (-(value (s.extract 1 s.size).data.toList).1, (value (s.extract 1 s.size).data.toList).2 && decide (0 < (value (s.extract 1 s.size).data.toList).1)) := by
  have hl := bytes_length s
  have hg : s.data.toList[0]? = some (s[0]'h) := by rw [Array.getElem?_toList, Array.getElem?_eq_getElem (show 0 < s.data.size from h)]; rfl
  have e45 : s[0]'h = 45 := UInt8.toNat_inj.1 hb
  unfold signed
  have ht : (s.extract 1 s.size).data.toList = s.data.toList.tail := by
    rw [ByteArray.data_extract]
    simp only [Array.toList_extract, List.extract, List.drop_one]
    exact List.take_of_length_le (by rw [List.length_tail, hl]; exact Nat.le_refl _)
  rw [if_pos (by rw [List.head?_eq_getElem?, hg, e45]), ht]
theorem signed_plain {s : ByteArray} (h : ∀ h : 0 < s.size, (s[0]'h).toNat ≠ 45) : signed s.data.toList = value s.data.toList := by
  unfold signed
  rw [if_neg]
  intro e
  rw [List.head?_eq_getElem?] at e
  have h0 : 0 < s.size := by
    rw [← bytes_length s]
    exact List.length_pos_iff.2 (fun x => by rw [x] at e; cases e)
  have hg : s.data.toList[0]? = some (s[0]'h0) := by rw [Array.getElem?_toList, Array.getElem?_eq_getElem (show 0 < s.data.size from h0)]; rfl
  rw [hg] at e
  exact h h0 (by rw [Option.some.inj e]; rfl)
/-- what both readings of a number say -/
structure Num (l : List UInt8) (n : Int) (ok : Bool) : Prop where
  lo : -9223372036854775808 ≤ n
  hi : n ≤ 9223372036854775807
  sound : ok = true → Lib.itoa n = l
  whole : ∀ m : Int, -1000000 ≤ m → m ≤ 1000000 → Lib.itoa m = l → n = m ∧ ok = true
end Go.Z
namespace Go.K
theorem ext_bytes {w w' : World} {t : TypeId} (h : w' = w ∨ ∃ l, w' = Lib.bytesWorld w t l) : Ext w w' := by
  rcases h with rfl | ⟨l, rfl⟩
  · exact Ext.refl _
  · exact Joins.below_bytesWorld _ _ _ _ (Nat.le_refl _)
end Go.K
namespace Go.Proofs.YtmgocfdhngeeiaaGreatDoor
open Go.RowKit
set_option maxRecDepth 100000 in
set_option maxHeartbeats 3200000 in
theorem number_any (s : ByteArray) (w : World) (hs : s.size ≤ 1048576) (hL : LV w) :
    Calls Tryz.prog 45 #[.string s] w fun e w' => e = .returned (.tuple #[.int .i64 (Z.number s).1, .bool (Z.number s).2]) ∧ K.Ext w w' := by
  cases hP : Lib.parseIntB 64 s.data.toList with
  | ok v =>
    have hb := Lib.parseIntB_bounds hP
    have HC := Tryz.strconv_ParseInt_10_at64_ok s (by omega) v hP w
    have HN : Hid (Z.number s = if Z.dec v = s then (v, true) else (0, false)) := Z.hide (by unfold Z.number; rw [hP])
    have HD : ∀ w', LTab w' → Calls Tryz.prog 87 #[.int .i64 v] w' fun e w'' => e = .returned (.string (Z.dec v)) ∧ K.Ext w' w'' := fun w' h => decimal_any v w' (by simp at hb; omega) (by simp at hb; omega) h
    obtain ⟨D, hD⟩ : ∃ D, D = Z.dec v := ⟨_, rfl⟩
    rw [← hD] at HD HN
    clear hD hP hb
    by_cases hq : D = s
    all_goals
      have hb := K.str_beq D s
      simp only [hq, decide_true, decide_false] at hb
      go_enter Tryz.func45, Tryz.ntmps45
      go_wp2_with fail
      refine K.call (by with_reducible rfl) (by with_reducible rfl) HC ?_
      rintro e w1 ⟨rfl, f0⟩
      have f1 := K.ext_bytes f0
      clear f0
      go_wp2_with fail
      refine K.call (by with_reducible rfl) (by with_reducible rfl) (HD _ (hL.t.ext f1)) ?_
      rintro e w2 ⟨rfl, f2⟩
      go_wp2
      go_ret2
      exact ⟨by rw [HN.out]; simp [hq], f1.trans f2⟩
  | range =>
    obtain ⟨ev, hv, hev⟩ := hL.rng
    have HC := Tryz.strconv_ParseInt_10_at64_range s (by omega) hP ev w hv hev
    have HN : Hid (Z.number s = (0, false)) := Z.hide (by unfold Z.number; rw [hP])
    go_enter Tryz.func45, Tryz.ntmps45
    go_wp2_with fail
    refine K.call (by with_reducible rfl) (by with_reducible rfl) HC ?_
    rintro e w1 ⟨N, rfl, _, _, f1⟩
    go_wp2
    go_ret2
    exact ⟨by rw [HN.out]; rfl, f1⟩
  | _ =>
    obtain ⟨ev, hv, hev⟩ := hL.syn
    have HC := Tryz.strconv_ParseInt_10_at64_syntax s (by omega) hP ev w hv hev
    have HN : Hid (Z.number s = (0, false)) := Z.hide (by unfold Z.number; rw [hP])
    go_enter Tryz.func45, Tryz.ntmps45
    go_wp2_with fail
    refine K.call (by with_reducible rfl) (by with_reducible rfl) HC ?_
    rintro e w1 ⟨N, rfl, _, _, f1⟩
    go_wp2
    go_ret2
    exact ⟨by rw [HN.out]; rfl, f1⟩
set_option maxRecDepth 100000 in
set_option maxHeartbeats 3200000 in
theorem l01Value_any (s : ByteArray) (w : World) :
    Calls Tryz.prog 92 #[.string s] w fun e w' => e = .returned (.tuple #[.int .i64 (Z.value s.data.toList).1, .bool (Z.value s.data.toList).2]) ∧ K.Ext w w' := by
  have hsz := Z.bytes_length s
  rcases Nat.lt_or_ge s.size 1 with h1 | h1
  · have HV := Z.hide (Z.value_len (l := s.data.toList) (by omega))
    have t1 : (s.size : Int) < 1 := by omega
    clear hsz
    go_enter Tryz.func92, Tryz.ntmps92
    go_wp2
    go_ret2
    exact ⟨by rw [HV.out]; rfl, K.Ext.refl _⟩
  · rcases Nat.lt_or_ge 13 s.size with h2 | h2
    · have HV := Z.hide (Z.value_len (l := s.data.toList) (by omega))
      have t1 : ¬ ((s.size : Int) < 1) := by omega
      have t2 : (13 : Int) < (s.size : Int) := by omega
      clear hsz
      go_enter Tryz.func92, Tryz.ntmps92
      go_wp2
      go_ret2
      exact ⟨by rw [HV.out]; rfl, K.Ext.refl _⟩
    · have t1 : ¬ ((s.size : Int) < 1) := by omega
      have t2 : ¬ ((13 : Int) < (s.size : Int)) := by omega
      have HS := Z.hide hsz
      clear hsz
      go_enter Tryz.func92, Tryz.ntmps92
      go_wp2
      go_loopw [4, 5] (fun n i wr => ∃ (k : Nat) (U : Int), k ≤ s.size ∧ n = .int .i64 U ∧ i = .int .i64 k ∧ 0 ≤ U ∧ U < 10000000000000 ∧ Hid (Lib.decFrom 0 (s.data.toList.take k) = some U.toNat) ∧ Hid (K.Ext w wr)) (fun _ i _ => s.size - (intOf i).toNat)
      case atStart => exact ⟨0, 0, Nat.zero_le _, rfl, rfl, Int.le_refl _, by decide, Z.hide rfl, Z.hide (K.Ext.refl _)⟩
      case round =>
        obtain ⟨k, U, hk, rfl, rfl, u0, u1, HD, HX⟩ := hrel
        by_cases hlt : k < s.size
        · have hg : s.data.toList[k]? = some (s[k]'hlt) := by rw [Array.getElem?_toList, Array.getElem?_eq_getElem (show k < s.data.size from hlt)]; rfl
          have HG := Z.hide hg
          clear hg
          have i0 : (0 : Int) ≤ (k : Int) := Int.natCast_nonneg k
          have i2 : (k : Int) < (s.size : Int) := by omega
          have hB := (s[k]'hlt).toNat_lt
          have b0 : (0 : Int) ≤ ((s[k]'hlt).toNat : Int) := Int.natCast_nonneg _
          have b1 : ((s[k]'hlt).toNat : Int) ≤ 255 := by omega
          cases a1 : decide (((s[k]'hlt).toNat : Int) < 48)
          · cases a2 : decide ((57 : Int) < ((s[k]'hlt).toNat : Int))
            · have c0 := of_decide_eq_false a1
              have c1 := of_decide_eq_false a2
              have HN := Z.hide (Z.dec_step HD.out HG.out (by omega) (by omega) (by rw [HS.out]; exact h2))
              have n1 : U.toNat * 10 + ((s[k]'hlt).toNat - 48) < 10000000000000 := HN.out.2
              have q1 : IntKind.i64.wrap (10 * U) = 10 * U := IntWalk.i64_in _ (by omega)
              have q2 : IntKind.u8.wrap (((s[k]'hlt).toNat : Int) - 48) = ((s[k]'hlt).toNat : Int) - 48 := IntWalk.u8_in _ (by omega)
              have q2' : IntKind.i64.wrap (((s[k]'hlt).toNat : Int) - 48) = ((s[k]'hlt).toNat : Int) - 48 := IntWalk.i64_in _ (by omega)
              have q3 : IntKind.i64.wrap (10 * U + (((s[k]'hlt).toNat : Int) - 48)) = 10 * U + (((s[k]'hlt).toNat : Int) - 48) := IntWalk.i64_in _ (by omega)
              have qk : IntKind.i64.wrap ((k : Int) + 1) = (k : Int) + 1 := IntWalk.i64_in _ (by omega)
              have hV : (10 * U + (((s[k]'hlt).toNat : Int) - 48)).toNat = U.toNat * 10 + ((s[k]'hlt).toNat - 48) := by omega
              have HV := Z.hide hV
              have v0 : 0 ≤ 10 * U + (((s[k]'hlt).toNat : Int) - 48) := by omega
              have v1 : 10 * U + (((s[k]'hlt).toNat : Int) - 48) < 10000000000000 := by omega
              clear hV n1
              go_wp2
              go_roundw
              case rel => exact ⟨k + 1, _, by omega, rfl, by go_num, v0, v1, Z.hide (by rw [HV.out]; exact HN.out.1), HX⟩
              case measure => simp [intOf]; omega
            · have HV := Z.hide (Z.value_bad HG.out (Z.digit_no (.inr (by have := of_decide_eq_true a2; omega))))
              go_wp2
              go_ret2
              exact ⟨by rw [HV.out]; rfl, HX.out⟩
          · have HV := Z.hide (Z.value_bad HG.out (Z.digit_no (.inl (by have := of_decide_eq_true a1; omega))))
            go_wp2
            go_ret2
            exact ⟨by rw [HV.out]; rfl, HX.out⟩
        · obtain rfl : k = s.size := by omega
          have hd := HD.out
          rw [List.take_of_length_le (by rw [HS.out]; exact Nat.le_refl _)] at hd
          have HV := Z.hide (Z.value_good (by rw [HS.out]; exact h1) (by rw [HS.out]; exact h2) hd)
          have HC := l01Dec_any U.toNat
          have e : ((U.toNat : Nat) : Int) = U := by omega
          rw [e] at HC HV
          have hu : U.toNat < 1000000000000000000 := by omega
          rw [Z.str_list] at HV
          generalize Z.str (Lib.decDigits U.toNat) = D at *
          have hb := K.str_beq D s
          clear hd HD e u0 u1
          by_cases hq : D = s
          all_goals
            simp only [hq, decide_true, decide_false] at hb
            go_wp2_with fail
            refine K.call (by with_reducible rfl) (by with_reducible rfl) (HC _ hu) ?_
            rintro e w2 ⟨rfl, f2⟩
            go_wp2
            go_ret2
            exact ⟨by rw [HV.out]; simp [hq], HX.out.trans f2⟩
set_option maxRecDepth 100000 in
set_option maxHeartbeats 3200000 in
theorem l01Signed_any (s : ByteArray) (w : World) :
    Calls Tryz.prog 48 #[.string s] w fun e w' => e = .returned (.tuple #[.int .i64 (Z.signed s.data.toList).1, .bool (Z.signed s.data.toList).2]) ∧ K.Ext w w' := by
  rcases Nat.eq_zero_or_pos s.size with h0 | h0
  · have HV := Z.hide (Z.signed_plain (s := s) (fun h => absurd h (by omega)))
    have t1 : ¬ ((0 : Int) < (s.size : Int)) := by omega
    clear h0
    go_enter Tryz.func48, Tryz.ntmps48
    go_wp2_with fail
    refine K.call (by with_reducible rfl) (by with_reducible rfl) (l01Value_any s _) ?_
    rintro e w2 ⟨rfl, f2⟩
    go_wp2
    go_ret2
    exact ⟨by rw [HV.out]; rfl, f2⟩
  · have t1 : (0 : Int) < (s.size : Int) := by omega
    by_cases hb : (s[0]'h0).toNat = 45
    · have HV := Z.hide (Z.signed_minus h0 hb)
      have HC := l01Value_any (s.extract 1 s.size)
      have HB := Z.hide (Z.value_bound (s.extract 1 s.size).data.toList)
      have t2 : (((s[0]'h0).toNat : Int) == 45) = true := by rw [hb]; rfl
      have t3 : ((s[0]'h0).toNat : Int) = 45 := by omega
      obtain ⟨T, hT⟩ : ∃ T, T = s.extract 1 s.size := ⟨_, rfl⟩
      have i1 : (1 : Int) ≤ (s.size : Int) := by omega
      generalize Z.value (s.extract 1 s.size).data.toList = v at *
      obtain ⟨x, o⟩ := v
      simp only at HV HC HB
      have q1 : IntKind.i64.wrap (-x) = -x := IntWalk.i64_in _ (by have := HB.out; omega)
      clear hT
      cases o
      all_goals
        go_enter Tryz.func48, Tryz.ntmps48
        go_wp2_with fail
        refine K.call (by with_reducible rfl) (by with_reducible rfl) (HC _) ?_
        rintro e w2 ⟨rfl, f2⟩
        go_wp2
        go_ret2
        exact ⟨by rw [HV.out]; rfl, f2⟩
    · have HV := Z.hide (Z.signed_plain (s := s) (fun h => hb))
      have t2 : (((s[0]'h0).toNat : Int) == 45) = false := by simp; omega
      have t3 : ¬ (((s[0]'h0).toNat : Int) = 45) := by omega
      go_enter Tryz.func48, Tryz.ntmps48
      go_wp2_with fail
      refine K.call (by with_reducible rfl) (by with_reducible rfl) (l01Value_any s _) ?_
      rintro e w2 ⟨rfl, f2⟩
      go_wp2
      go_ret2
      exact ⟨by rw [HV.out]; rfl, f2⟩
end Go.Proofs.YtmgocfdhngeeiaaGreatDoor
end
section
namespace Go.Z
theorem itoa_no {b : UInt8} (n : Int) (h1 : b ≠ 45) (h2 : b.toNat < 48 ∨ 57 < b.toNat) : b ∉ Lib.itoa n := fun hm => by
  rcases itoa_byte n b hm with h | h
  · exact h1 h
  · omega
theorem itoa_ne (n : Int) : Lib.itoa n ≠ [] := by
  rcases int_cases n with ⟨u, rfl⟩ | ⟨u, hu, rfl⟩
  · rw [itoa_nat]; exact decDigits_ne u
  · rw [itoa_neg hu]; simp
theorem len4 {l : List UInt8} (h : l.length = 4) : ∃ a b c d, l = [a, b, c, d] := by
  match l, h with
  | [a, b, c, d], _ => exact ⟨a, b, c, d, rfl⟩
theorem fig_bytes {d : Int} (t : Int) (h : 1000 ≤ d) (h' : d ≤ 9999) : ∃ c0 c1 c2 c3 : UInt8, Lib.itoa d = [c0, c1, c2, c3] ∧ figText d t = str ([c0, 46, c1, c2, c3, 101] ++ Lib.itoa t) := by
  have h4 := dec4 h h'
  unfold dec at h4
  rw [str_size] at h4
  obtain ⟨c0, c1, c2, c3, he⟩ := len4 h4
  refine ⟨c0, c1, c2, c3, he, ?_⟩
  have e1 : (str [c0, c1, c2, c3]).extract 0 1 = str [c0] := by unfold str; rw [ByteArray.extract_mk]; rfl
  have e2 : (str [c0, c1, c2, c3]).extract 1 4 = str [c1, c2, c3] := by unfold str; rw [ByteArray.extract_mk]; rfl
  unfold figText dec
  rw [he, e1, e2]
  show (((str [c0] ++ str [46]) ++ str [c1, c2, c3]) ++ str [101]) ++ str (Lib.itoa t) = _
  rw [str_append, str_append, str_append, str_append]
  rfl
theorem replace_one {c : UInt8} {a t : List UInt8} (h : c ∉ a) : Lib.replace (a ++ c :: t) [c] [] 1 = a ++ t := by
  have hc : 1 ≤ Lib.count (a ++ c :: t) [c] := by
    unfold Lib.count Lib.countFrom
    have h1 : (((a.length : Nat) : Int) == -1) = false := by rw [beq_eq_false_iff_ne]; omega
    rw [index_hit t h, h1]
    simp
  unfold Lib.replace
  rw [if_neg (by simp)]
  unfold Lib.replaceNum
  rw [if_neg (by omega), show (1 : Int).toNat = 0 + 1 from rfl, Lib.replaceK_hit _ _ _ _ a.length (index_hit t h)]
  simp [Lib.replaceK]
/-- the program's reading of a figure -/
def readFig (s : ByteArray) : (Int × Int) × Bool :=
  if (Lib.cut s.data.toList [101]).2.2 && (number (str (Lib.replace (Lib.cut s.data.toList [101]).1 [46] [] 1))).2 && (number (str (Lib.cut s.data.toList [101]).2.1)).2 &&
      isFig (number (str (Lib.replace (Lib.cut s.data.toList [101]).1 [46] [] 1))).1 (number (str (Lib.cut s.data.toList [101]).2.1)).1 &&
      decide (figText (number (str (Lib.replace (Lib.cut s.data.toList [101]).1 [46] [] 1))).1 (number (str (Lib.cut s.data.toList [101]).2.1)).1 = s)
  then (((number (str (Lib.replace (Lib.cut s.data.toList [101]).1 [46] [] 1))).1, (number (str (Lib.cut s.data.toList [101]).2.1)).1), true) else ((0, 0), false)
/-- what both readings of a figure say -/
structure FigR (s : ByteArray) (d t : Int) (ok : Bool) : Prop where
  sound : ok = true → isFig d t = true ∧ figText d t = s
  zero : ok = false → d = 0 ∧ t = 0
  whole : ∀ d' t' : Int, isFig d' t' = true → figText d' t' = s → d = d' ∧ t = t' ∧ ok = true
theorem isFig_parts {d t : Int} (h : isFig d t = true) : (1000 ≤ d ∧ d ≤ 9999) ∧ -30 ≤ t ∧ t ≤ 30 := by
  simpa [isFig] using h
theorem readFig_whole {d t : Int} (h : isFig d t = true) : readFig (figText d t) = ((d, t), true) := by
  obtain ⟨⟨h1, h2⟩, h3, h4⟩ := isFig_parts h
  obtain ⟨c0, c1, c2, c3, he, hf⟩ := fig_bytes t h1 h2
  have n101 := itoa_no (b := 101) d (by decide) (by decide)
  have n46 := itoa_no (b := 46) d (by decide) (by decide)
  rw [he] at n101 n46
  simp only [List.mem_cons, List.not_mem_nil, or_false, not_or] at n101 n46
  have hc : Lib.cut (figText d t).data.toList [101] = ([c0, 46, c1, c2, c3], Lib.itoa t, true) := by
    rw [hf, str_bytes]
    exact cut_hit (a := [c0, 46, c1, c2, c3]) (by simp only [List.mem_cons, List.not_mem_nil, or_false, not_or]; exact ⟨n101.1, by decide, n101.2⟩)
  have hr : Lib.replace [c0, 46, c1, c2, c3] [46] [] 1 = [c0, c1, c2, c3] := replace_one (c := 46) (a := [c0]) (t := [c1, c2, c3]) (by simp only [List.mem_cons, List.not_mem_nil, or_false]; exact n46.1)
  have hn : number (str [c0, c1, c2, c3]) = (d, true) := by rw [← he]; exact number_dec (by omega) (by omega)
  have ht : number (str (Lib.itoa t)) = (t, true) := number_dec (by omega) (by omega)
  unfold readFig
  rw [hc]
  simp only [hr, hn, ht, h]
  simp
def partB (nm : ByteArray) (x : Int) (i : Nat) : List UInt8 := (nm.extract i (i + 1)).data.toList ++ (if x == 1 then [] else 94 :: Lib.itoa x)
theorem partText_bytes (nm : ByteArray) (x : Int) (i : Nat) : (partText nm x i).data.toList = 42 :: partB nm x i := by
  unfold partText partB
  split
  · rw [append_bytes]; simp
  · rw [append_bytes, append_bytes, append_bytes]
    have : (dec x).data.toList = Lib.itoa x := by unfold dec; rw [str_bytes]
    rw [this]; simp
theorem joinB_snoc (c : UInt8) (p : List UInt8) : ∀ {ps : List (List UInt8)}, ps ≠ [] → joinB c (ps ++ [p]) = joinB c ps ++ c :: p
  | [], h => absurd rfl h
  | [q], _ => by simp [joinB]
  | q :: r :: t, _ => by
    have := joinB_snoc c p (ps := r :: t) (by simp)
    simp only [List.cons_append, joinB, List.append_assoc] at this ⊢
    rw [this]
def pieces (F : Fm) (k : Nat) : List (List UInt8) := (figText F.dg F.tn).data.toList :: (List.range k).map fun i => partB F.nm (F.pw.getD i 0) i
theorem fmTextK_bytes (F : Fm) : ∀ k, (fmTextK F k).data.toList = joinB 42 (pieces F k)
  | 0 => rfl
  | k + 1 => by
    have ih := fmTextK_bytes F k
    unfold fmTextK
    rw [append_bytes, ih, partText_bytes]
    unfold pieces
    rw [List.range_succ, List.map_append, List.map_singleton, ← List.cons_append, joinB_snoc _ _ (by simp)]
theorem name_byte {nm : ByteArray} {i : Nat} (h : i < nm.size) : (nm.extract i (i + 1)).data.toList = [nm[i]'h] := by
  rw [ByteArray.data_extract, Array.toList_extract]
  have hl : i < nm.data.toList.length := by rw [bytes_length]; exact h
  simp only [List.extract]
  rw [List.drop_eq_getElem_cons hl, show i + 1 - i = 1 by omega, List.take_succ_cons, List.take_zero, Array.getElem_toList]
  rfl
theorem valid_name {F : Fm} (h : isFormula F = true) {i : Nat} (hi : i < F.nm.size) : 97 ≤ (F.nm[i]'hi).toNat ∧ (F.nm[i]'hi).toNat ≤ 122 := by
  have := valid_at h i hi
  simp only [okAt, Bool.and_eq_true, Bool.not_eq_true', decide_eq_false_iff_not] at this
  have e := bs_get F.nm i hi
  omega
theorem valid_pw {F : Fm} (h : isFormula F = true) {i : Nat} (hi : i < F.nm.size) : -6 ≤ F.pw.getD i 0 ∧ F.pw.getD i 0 ≤ 6 := by
  have := valid_at h i hi
  simp only [okAt, Bool.and_eq_true, decide_eq_true_eq] at this
  omega
theorem fig_no42 {d : Int} (t : Int) (h : 1000 ≤ d) (h' : d ≤ 9999) : (42 : UInt8) ∉ (figText d t).data.toList := by
  obtain ⟨c0, c1, c2, c3, he, hf⟩ := fig_bytes t h h'
  have n := itoa_no (b := 42) d (by decide) (by decide)
  have m := itoa_no (b := 42) t (by decide) (by decide)
  rw [he] at n
  rw [hf, str_bytes]
  simp only [List.mem_cons, List.not_mem_nil, or_false, not_or] at n
  simp only [List.mem_append, List.mem_cons, List.not_mem_nil, or_false, not_or]
  exact ⟨⟨n.1, by decide, n.2.1, n.2.2.1, n.2.2.2, by decide⟩, m⟩
theorem part_no42 {F : Fm} (h : isFormula F = true) {i : Nat} (hi : i < F.nm.size) : (42 : UInt8) ∉ partB F.nm (F.pw.getD i 0) i := by
  have hn := valid_name h hi
  unfold partB
  rw [name_byte hi]
  intro hm
  rcases List.mem_append.1 hm with h1 | h1
  · have : (42 : UInt8) = F.nm[i]'hi := by simpa using h1
    rw [← this] at hn
    simp at hn
  · split at h1
    · cases h1
    · rcases List.mem_cons.1 h1 with h2 | h2
      · simp at h2
      · exact itoa_no _ (by decide) (by decide) h2
theorem fm_split {F : Fm} (h : isFormula F = true) : splitC 42 (fmText F).data.toList = pieces F F.nm.size := by
  unfold fmText
  rw [fmTextK_bytes]
  refine splitC_join (by simp [pieces]) fun p hp => ?_
  unfold pieces at hp
  rcases List.mem_cons.1 hp with rfl | hp
  · obtain ⟨⟨h1, h2⟩, _⟩ := isFig_parts (show isFig F.dg F.tn = true by simp only [isFormula, Bool.and_eq_true] at h; exact h.1.1.1)
    exact fig_no42 _ h1 h2
  · obtain ⟨i, hi, rfl⟩ := List.mem_map.1 hp
    exact part_no42 h (List.mem_range.1 hi)
/-- the program's reading of a letter with its exponent -/
def rdPart (p : List UInt8) : List UInt8 × Int × Bool :=
  if (Lib.cut p [94]).2.2 then ((Lib.cut p [94]).1, (number (str (Lib.cut p [94]).2.1)).1, (number (str (Lib.cut p [94]).2.1)).2) else ((Lib.cut p [94]).1, 1, true)
theorem rdPart_part {F : Fm} (h : isFormula F = true) {i : Nat} (hi : i < F.nm.size) : rdPart (partB F.nm (F.pw.getD i 0) i) = ([F.nm[i]'hi], F.pw.getD i 0, true) := by
  have hn := valid_name h hi
  have hp := valid_pw h hi
  have hne : (94 : UInt8) ∉ [F.nm[i]'hi] := by
    intro hm
    have : (94 : UInt8) = F.nm[i]'hi := by simpa using hm
    rw [← this] at hn; simp at hn
  unfold partB
  rw [name_byte hi]
  split
  · rename_i hx
    unfold rdPart
    rw [List.append_nil, cut_miss hne, beq_iff_eq.1 hx]
    rfl
  · unfold rdPart
    rw [cut_hit hne]
    simp only [if_true]
    rw [show number (str (Lib.itoa (F.pw.getD i 0))) = (F.pw.getD i 0, true) from number_dec (by omega) (by omega)]
/-- what both readings of a formula say -/
structure FmR (s : ByteArray) (F : Fm) (ok : Bool) : Prop where
  sound : ok = true → isFormula F = true ∧ fmText F = s
  zero : ok = false → F = zeroFm
  whole : ∀ G, isFormula G = true → fmText G = s → F = G ∧ ok = true
theorem FmR.same {s : ByteArray} {F G : Fm} {a b : Bool} (h : FmR s F a) (k : FmR s G b) : F = G ∧ a = b := by
  cases a <;> cases b
  · exact ⟨by rw [h.zero rfl, k.zero rfl], rfl⟩
  · obtain ⟨k1, k2⟩ := k.sound rfl
    have := (h.whole G k1 k2).2
    cases this
  · obtain ⟨k1, k2⟩ := h.sound rfl
    have := (k.whole F k1 k2).2
    cases this
  · obtain ⟨k1, k2⟩ := k.sound rfl
    exact ⟨(h.whole G k1 k2).1, rfl⟩
theorem FmR.good {s : ByteArray} {F : Fm} (h1 : isFormula F = true) (h2 : fmText F = s) (h : ∀ G, isFormula G = true → fmText G = s → F = G) : FmR s F true :=
  ⟨fun _ => ⟨h1, h2⟩, fun h => (by cases h), fun G a b => ⟨h G a b, rfl⟩⟩
theorem FmR.bad {s : ByteArray} (h : ∀ G, isFormula G = true → fmText G ≠ s) : FmR s zeroFm false :=
  ⟨fun h => (by cases h), fun _ => rfl, fun G a b => absurd b (h G a)⟩
end Go.Z
end
section
namespace Go.Z
theorem splitC_mem_len (c : UInt8) : ∀ (l : List UInt8), ∀ p ∈ splitC c l, p.length ≤ l.length
  | [], p, h => by simp [splitC] at h; subst h; simp
  | b :: l, p, h => by
    have ih := splitC_mem_len c l
    unfold splitC at h
    split at h
    · rcases List.mem_cons.1 h with rfl | h
      · simp
      · have := ih p h; simp; omega
    · split at h
      · obtain rfl := List.mem_singleton.1 h; simp
      · rename_i q r hq
        rw [hq] at ih
        rcases List.mem_cons.1 h with rfl | h
        · have := ih q (by simp); simp; omega
        · have := ih p (by simp [h]); simp; omega
/-- what is known of the letters and exponents read so far -/
def RdI (s : ByteArray) (d t : Int) (m k : Nat) (N : List UInt8) (P : List Int) : Prop :=
  ∀ G, isFormula G = true → fmText G = s → (d = G.dg ∧ t = G.tn) ∧ (G.nm.size = m ∧ G.pw.length = m) ∧ N = G.nm.data.toList.take k ∧ P = G.pw.take k
theorem rd_split {s : ByteArray} {G : Fm} (h : isFormula G = true) (ht : fmText G = s) {p0 : List UInt8} {ps : List (List UInt8)} (hs : splitC 42 s.data.toList = p0 :: ps) :
    p0 = (figText G.dg G.tn).data.toList ∧ ps.length = G.nm.size ∧ ∀ k (hk : k < ps.length), ps[k] = partB G.nm (G.pw.getD k 0) k := by
  have e := fm_split h
  rw [ht, hs] at e
  unfold pieces at e
  obtain ⟨e1, e2⟩ := List.cons.inj e
  subst e2
  exact ⟨e1, by simp, fun k hk => by simp⟩
theorem rd_fig {s : ByteArray} {p0 : List UInt8} {ps : List (List UInt8)} (hs : splitC 42 s.data.toList = p0 :: ps) {G : Fm} (h : isFormula G = true) (ht : fmText G = s) : readFig (str p0) = ((G.dg, G.tn), true) := by
  obtain ⟨e1, _, _⟩ := rd_split h ht hs
  rw [e1, str_list]
  exact readFig_whole (by simp only [isFormula, Bool.and_eq_true] at h; exact h.1.1.1)
theorem RdI.start {s : ByteArray} {p0 : List UInt8} {ps : List (List UInt8)} (hs : splitC 42 s.data.toList = p0 :: ps) {d t : Int} {b : Bool} (hf : readFig (str p0) = ((d, t), b)) : RdI s d t ps.length 0 [] [] := fun G h ht => by
  have e := rd_fig hs h ht
  rw [hf] at e
  obtain ⟨e1, e2⟩ := Prod.mk.inj e
  obtain ⟨e3, e4⟩ := Prod.mk.inj e1
  have hl := (isFormula_len h).1
  have hm := (rd_split h ht hs).2.1
  exact ⟨⟨e3, e4⟩, ⟨hm.symm, by omega⟩, by simp, by simp⟩
theorem RdI.fail {s : ByteArray} {p0 : List UInt8} {ps : List (List UInt8)} (hs : splitC 42 s.data.toList = p0 :: ps) {x : Int × Int} (hf : readFig (str p0) = (x, false)) : FmR s zeroFm false := FmR.bad fun G h ht => by
  have e := rd_fig hs h ht
  rw [hf] at e
  cases (Prod.mk.inj e).2
theorem rd_part {s : ByteArray} {p0 : List UInt8} {ps : List (List UInt8)} (hs : splitC 42 s.data.toList = p0 :: ps) {k : Nat} (hk : k < ps.length) {G : Fm} (h : isFormula G = true) (ht : fmText G = s) : ∃ hi : k < G.nm.size, rdPart ps[k] = ([G.nm[k]'hi], G.pw.getD k 0, true) := by
  obtain ⟨_, e1, e2⟩ := rd_split h ht hs
  exact ⟨by omega, by rw [e2 k hk]; exact rdPart_part h (by omega)⟩
theorem RdI.bad {s : ByteArray} {p0 : List UInt8} {ps : List (List UInt8)} (hs : splitC 42 s.data.toList = p0 :: ps) {k : Nat} (hk : k < ps.length) (hb : (rdPart ps[k]).2.2 = false ∨ (rdPart ps[k]).1.length ≠ 1) : FmR s zeroFm false := FmR.bad fun G h ht => by
  obtain ⟨_, e⟩ := rd_part hs hk h ht
  rw [e] at hb
  simp at hb
theorem take_snoc {α : Type} {l : List α} {k : Nat} {x : α} (h : l[k]? = some x) : l.take (k + 1) = l.take k ++ [x] := by
  obtain ⟨hk, rfl⟩ := List.getElem?_eq_some_iff.1 h
  exact List.take_succ_eq_append_getElem hk
theorem RdI.done {s : ByteArray} {d t : Int} {m : Nat} {N : ByteArray} {P : List Int} (hI : RdI s d t m m N.data.toList P) (h1 : isFormula ⟨d, t, N, P⟩ = true) (h2 : fmText ⟨d, t, N, P⟩ = s) : FmR s ⟨d, t, N, P⟩ true := FmR.good h1 h2 fun G h ht => by
  obtain ⟨⟨rfl, rfl⟩, ⟨h3, h4⟩, h5, h6⟩ := hI G h ht
  rw [List.take_of_length_le (by rw [bytes_length, h3]; exact Nat.le_refl _)] at h5
  rw [List.take_of_length_le (by omega)] at h6
  have e : N = G.nm := by rw [← str_list N, h5, str_list]
  rw [e, h6]
theorem RdI.none {s : ByteArray} {d t : Int} {m : Nat} {N : ByteArray} {P : List Int} (hI : RdI s d t m m N.data.toList P) (hb : isFormula ⟨d, t, N, P⟩ = false ∨ fmText ⟨d, t, N, P⟩ ≠ s) : FmR s zeroFm false := FmR.bad fun G h ht => by
  obtain ⟨⟨rfl, rfl⟩, ⟨h3, h4⟩, h5, h6⟩ := hI G h ht
  rw [List.take_of_length_le (by rw [bytes_length, h3]; exact Nat.le_refl _)] at h5
  rw [List.take_of_length_le (by omega)] at h6
  have e : N = G.nm := by rw [← str_list N, h5, str_list]
  rw [e, h6] at hb
  rcases hb with hb | hb
  · rw [h] at hb; cases hb
  · exact hb ht
end Go.Z
end
section
namespace Go.Z
/-- the code of a reading -/
def okCode : Bool → Int
  | true => 0
  | false => 6
end Go.Z
namespace Go.Proofs.YtmgocfdhngeeiaaGreatDoor
open Go.RowKit
end Go.Proofs.YtmgocfdhngeeiaaGreatDoor
end
section
namespace Go.Z
/-- how far the splitting has come -/
structure SplitI (c : UInt8) (l : List UInt8) (i m : Nat) (done : List (List UInt8)) : Prop where
  run : i ≤ l.length → splitC c l = done ++ splitC c (l.drop m) ∧ c ∉ (l.take i).drop m
  fin : l.length < i → done = splitC c l
theorem SplitI.start (c : UInt8) (l : List UInt8) : SplitI c l 0 0 [] := ⟨fun _ => ⟨rfl, by simp⟩, fun h => absurd h (by omega)⟩
theorem take_next {l : List UInt8} {i : Nat} (h : i < l.length) : l.take (i + 1) = l.take i ++ [l[i]] := by rw [List.take_succ_eq_append_getElem h]
theorem SplitI.other {c : UInt8} {l : List UInt8} {i m : Nat} {done : List (List UInt8)} (h : SplitI c l i m done) (hm : m ≤ i) (hi : i < l.length) (hc : l[i]'hi ≠ c) : SplitI c l (i + 1) m done := by
  obtain ⟨h1, h2⟩ := h.run (by omega)
  refine ⟨fun _ => ⟨h1, ?_⟩, fun h => absurd h (by omega)⟩
  rw [take_next hi, List.drop_append_of_le_length (by simp; omega)]
  intro hx
  rcases List.mem_append.1 hx with hx | hx
  · exact h2 hx
  · have h3 : c = l[i] := by simpa using hx
    exact hc h3.symm
theorem SplitI.hit {c : UInt8} {l : List UInt8} {i m : Nat} {done : List (List UInt8)} (h : SplitI c l i m done) (hm : m ≤ i) (hi : i < l.length) (hc : l[i]'hi = c) : SplitI c l (i + 1) (i + 1) (done ++ [(l.take i).drop m]) := by
  obtain ⟨h1, h2⟩ := h.run (by omega)
  have e : l.drop m = (l.take i).drop m ++ c :: l.drop (i + 1) := by
    rw [← hc, ← List.drop_eq_getElem_cons hi]
    have h3 : l.drop m = (l.take i ++ l.drop i).drop m := by rw [List.take_append_drop]
    rw [h3, List.drop_append_of_le_length (by simp; omega)]
  refine ⟨fun _ => ⟨?_, by simp⟩, fun h => absurd h (by omega)⟩
  rw [h1, e, splitC_cut _ h2, List.append_assoc]; rfl
theorem SplitI.last {c : UInt8} {l : List UInt8} {i m : Nat} {done : List (List UInt8)} (h : SplitI c l i m done) (hi : i = l.length) : SplitI c l (i + 1) (i + 1) (done ++ [(l.take i).drop m]) := by
  obtain ⟨h1, h2⟩ := h.run (by omega)
  subst hi
  rw [List.take_length] at h2 ⊢
  exact ⟨fun h => absurd h (by omega), fun _ => by rw [h1, splitC_piece h2]⟩
theorem extract_bytes (s : ByteArray) (a b : Nat) : (s.extract a b).data.toList = (s.data.toList.take b).drop a := by
  rw [ByteArray.data_extract, Array.toList_extract, List.drop_take]
end Go.Z
namespace Go.Proofs.YtmgocfdhngeeiaaGreatDoor
open Go.RowKit
theorem info_str : (Tryz.prog.info? 9).map (fun i => (i.zero, i.size, i.bytes)) = some (some (.string ByteArray.empty), 1, 16) := by kernel_rfl
/-- a row of strings -/
def strVals (ls : List (List UInt8)) : List Value := ls.map fun p => Value.string (Z.str p)
set_option maxRecDepth 100000 in
set_option maxHeartbeats 6400000 in
theorem l01Split_any (s : ByteArray) (c : UInt8) (w : World) (hs : s.size ≤ 1048576) :
    Calls Tryz.prog 47 #[.string s, .int .u8 (c.toNat : Int)] w fun e w' => (∃ v, e = .returned v ∧ w'.ownsRow w.heap.size 9 1 v (Z.splitC c s.data.toList).length (strVals (Z.splitC c s.data.toList))) ∧ K.Ext w w' := by
  have HSZ := Z.hide (Z.bytes_length s)
  obtain ⟨it0, hi0, hz0, hz1, hz2⟩ := info_parts info_str
  obtain ⟨C, hC⟩ : ∃ C : Int, C = (c.toNat : Int) := ⟨_, rfl⟩
  rw [← hC]
  have HC := Z.hide hC
  clear hC
  go_enter Tryz.func47, Tryz.ntmps47
  go_wp2
  go_loopw [5, 6, 7] (fun u fr i wr => ∃ (j m : Nat) (done : List (List UInt8)), fr = .int .i64 m ∧ i = .int .i64 j ∧ j ≤ s.size + 1 ∧ m ≤ j ∧ done.length ≤ j ∧ Hid (Z.SplitI c s.data.toList j m done) ∧ Hid (wr.ownsRow w.heap.size 9 1 u done.length (strVals done)) ∧ Hid (K.Ext w wr)) (fun _ _ i _ => s.size + 1 - (intOf i).toNat)
  case atStart => exact ⟨0, 0, [], rfl, rfl, Nat.zero_le _, Nat.le_refl _, Nat.le_refl _, Z.hide (Z.SplitI.start _ _), Z.hide (World.ownsRow_lit _ _ _ (Nat.le_refl _) (by decide) (by simp)), Z.hide ((K.Ext.refl _).alloc _)⟩
  case round =>
    obtain ⟨j, m, done, rfl, rfl, hj, hm, hd, HI, HO, HX⟩ := hrel
    have j0 : (0 : Int) ≤ (j : Int) := Int.natCast_nonneg j
    have m0 : (0 : Int) ≤ (m : Int) := Int.natCast_nonneg m
    have mj : (m : Int) ≤ (j : Int) := by omega
    have hw := HX.out.size
    by_cases hjn : j ≤ s.size
    · have j1 : (j : Int) ≤ (s.size : Int) := by omega
      have qj : IntKind.i64.wrap ((j : Int) + 1) = (j : Int) + 1 := IntWalk.i64_in _ (by omega)
      have hsl := K.cut_str (P := Tryz.prog) (t := 9) (s := s) (i := m) (j := j) (a := (m : Int)) (b := (j : Int)) Tryz.underlying9 rfl rfl hm hjn
      obtain ⟨P, hP⟩ : ∃ P, P = s.extract m j := ⟨_, rfl⟩
      rw [← hP] at hsl
      have HP := Z.hide (show Value.string P = Value.string (Z.str ((s.data.toList.take j).drop m)) by rw [hP, ← Z.extract_bytes, Z.str_list])
      clear hP
      rcases Nat.lt_or_ge j s.size with hlt | hge
      · have j2 : (j : Int) < (s.size : Int) := by omega
        have j3 : ((j : Int) == (s.size : Int)) = false := by simp; omega
        have j4 : ¬ ((j : Int) = (s.size : Int)) := by omega
        have hll : j < s.data.toList.length := by rw [HSZ.out]; exact hlt
        have HB := Z.hide (show s.data.toList[j]'hll = s[j]'hlt by rw [Array.getElem_toList]; rfl)
        cases hq : (((s[j]'hlt).toNat : Int) == C)
        · have hne : ¬ (((s[j]'hlt).toNat : Int) = C) := by simpa using hq
          have HN := Z.hide (HI.out.other hm hll (by rw [HB.out]; intro e; exact hne (by rw [e, HC.out])))
          go_wp2
          go_roundw
          case rel => exact ⟨j + 1, m, done, rfl, by go_num, by omega, by omega, by omega, HN, HO, HX⟩
          case measure => first | (simp [intOf]; done) | (simp [intOf]; omega)
        · have heq : ((s[j]'hlt).toNat : Int) = C := by simpa using hq
          have HN := Z.hide (HI.out.hit hm hll (by rw [HB.out]; exact UInt8.toNat_inj.1 (by have := HC.out; omega)))
          go_wp2_with (at_builtin; refine wpList_append_lies _ rfl _ _ _ rfl w.heap.size 9 it0 _ 1 16 Tryz.underlying67 hi0 hz0 hz1 hz2 rfl (by omega) _ done.length _ rfl (HO.out.alloc _) ⟨wr.heap.size, 0, none⟩ 1 1 [.string P] rfl rfl (World.news_of_block (cs := #[.string P]) (t := 9) (fr := (0, 0)) (K.block_new rfl)) (by simp [Value.oneCell']) (by omega) (by unfold maxLen; omega) (by omega) (by simp; omega) (wr.heap.size + 1) (by simp) ?_; intro g2 gcap2 w2 hown2 hgrow2 hat2 hlt3; have HO2 := Z.hide hown2; have HX2 : Hid (K.Ext w w2) := Z.hide ((HX.out.alloc _).below.grown hgrow2 (by simp; omega) (fun g hg => (HO.out.lt g hg).1)); clear hown2 hgrow2 hat2 hlt3)
          go_roundw
          case rel => exact ⟨j + 1, j + 1, done ++ [(s.data.toList.take j).drop m], by go_num, by go_num, by omega, by omega, by simp; omega, HN, Z.hide (by have := HO2.out; rw [HP.out] at this; simpa [strVals] using this), HX2⟩
          case measure => first | (simp [intOf]; done) | (simp [intOf]; omega)
      · obtain rfl : j = s.size := by omega
        have HN := Z.hide (HI.out.last (HSZ.out).symm)
        go_wp2_with (at_builtin; refine wpList_append_lies _ rfl _ _ _ rfl w.heap.size 9 it0 _ 1 16 Tryz.underlying67 hi0 hz0 hz1 hz2 rfl (by omega) _ done.length _ rfl (HO.out.alloc _) ⟨wr.heap.size, 0, none⟩ 1 1 [.string P] rfl rfl (World.news_of_block (cs := #[.string P]) (t := 9) (fr := (0, 0)) (K.block_new rfl)) (by simp [Value.oneCell']) (by omega) (by unfold maxLen; omega) (by omega) (by simp; omega) (wr.heap.size + 1) (by simp) ?_; intro g2 gcap2 w2 hown2 hgrow2 hat2 hlt3; have HO2 := Z.hide hown2; have HX2 : Hid (K.Ext w w2) := Z.hide ((HX.out.alloc _).below.grown hgrow2 (by simp; omega) (fun g hg => (HO.out.lt g hg).1)); clear hown2 hgrow2 hat2 hlt3)
        go_roundw
        case rel => exact ⟨s.size + 1, s.size + 1, done ++ [(s.data.toList.take s.size).drop m], by go_num, by go_num, by omega, by omega, by simp; omega, HN, Z.hide (by have := HO2.out; rw [HP.out] at this; simpa [strVals] using this), HX2⟩
        case measure => first | (simp [intOf]; done) | (simp [intOf]; omega)
    · have j1 : ¬ ((j : Int) ≤ (s.size : Int)) := by omega
      obtain rfl := HI.out.fin (by rw [HSZ.out]; omega)
      go_wp2
      go_ret
      exact ⟨⟨_, rfl, HO.out⟩, HX.out⟩
end Go.Proofs.YtmgocfdhngeeiaaGreatDoor
end
section
namespace Go.K
open Go.RowKit
theorem set_block' {w : World} {k : Nat} {a : Addr} {v : Value} (hne : k ≠ a.block) : (w.setCell a v).heap[k]? = w.heap[k]? := Below.heap_setCell _ _ _ _ hne
end Go.K
namespace Go.Proofs.YtmgocfdhngeeiaaGreatDoor
open Go.RowKit
theorem split_any (s : ByteArray) (c : UInt8) (w : World) (hs : s.size ≤ 1048576) (hL : LV w) :
    Calls Tryz.prog 43 #[.string s, .string ⟨#[c]⟩] w fun e w' => (∃ b cap, e = .returned (.slice (some ⟨b, 0, none⟩) (Z.splitC c s.data.toList).length cap) ∧ (Z.splitC c s.data.toList).length ≤ cap ∧ w.heap.size ≤ b ∧ (∀ j (h : j < (Z.splitC c s.data.toList).length), w'.cell? ⟨b, j, none⟩ = some (.string (Z.str ((Z.splitC c s.data.toList)[j]'h))))) ∧ K.Ext w w' := by
  obtain ⟨m, hm⟩ := hL.maxl
  have hd : (Lib.splitB ⟨#[c]⟩ 0 (Lib.countB s ⟨#[c]⟩) s).map (·.data.toList) = Z.splitC c s.data.toList := by
    rw [Lib.splitB_data]; exact Z.split_C c s.data.toList
  have hl := Lib.splitB_all ⟨#[c]⟩ (Nat.le_refl 1) 0 _ s rfl
  have he : Lib.splitB ⟨#[c]⟩ 0 (Lib.countB s ⟨#[c]⟩) s = (Z.splitC c s.data.toList).map Z.str := by
    rw [← hd, List.map_map]
    conv => lhs; rw [← List.map_id (Lib.splitB ⟨#[c]⟩ 0 (Lib.countB s ⟨#[c]⟩) s)]
    exact List.map_congr_left fun p _ => (Z.str_list p).symm
  have hn : (Z.splitC c s.data.toList).length = Lib.countB s ⟨#[c]⟩ + 1 := by rw [← hl, he, List.length_map]
  refine (Tryz.strings_Split s ⟨#[c]⟩ m w (by omega) hm (Nat.le_refl 1)).mono fun e w' ⟨h1, h2⟩ => ?_
  subst h2
  refine ⟨⟨w.heap.size, Lib.countB s ⟨#[c]⟩ + 1, by rw [hn]; exact h1, by omega, Nat.le_refl _, fun j hj => ?_⟩, (K.Ext.refl _).alloc _⟩
  rw [he]
  refine K.cell_at (K.block_new rfl) ?_
  simp [List.getElem?_map, List.getElem?_eq_getElem hj]
end Go.Proofs.YtmgocfdhngeeiaaGreatDoor
end
section
namespace Go.K
open Go.RowKit
/-- what a call on the source may do -/
def RG (T : TypeId) (g : Nat) : Rel := ⟨fun w w' => Far g (g + 1) w w' ∧ (Src T w g → Src T w' g),
  fun a => ⟨Far.refl _ _ _, fun h => h⟩, fun _ _ _ h k => ⟨h.1.trans k.1, fun x => k.2 (h.2 x)⟩, fun _ _ h => ⟨Far.of_ext h, fun x => x.ext h⟩, fun _ _ h => h.1.size, g + 1,
  fun a b' k o h hk ho => by rw [h.1.block k (Array.getElem?_eq_some_iff.1 ho).1 (.inr hk)]; exact ho⟩
/-- a number below n -/
def SQ.lt_ {T : TypeId} {g : Nat} (n : Int) : SQ (RG T g) := SQ.of' (fun v _ => ∃ r : Int, v = .int .i64 r ∧ 0 ≤ r ∧ r < n) (fun _ _ _ _ x => x)
/-- a pointer to a string of one byte -/
def SQ.at1 {T : TypeId} {g : Nat} : SQ (RG T g) := SQ.of' (fun v w => ∃ (b i : Nat) (S : ByteArray), v = .pointer (some ⟨b, i, none⟩) ∧ w.cell? ⟨b, i, none⟩ = some (.string S) ∧ S.size = 1 ∧ g + 1 ≤ b) (fun _ _ _ h ⟨b, i, S, h1, h2, h3, h4⟩ => ⟨b, i, S, h1, h.1.cell_of h2 (.inr h4), h3, h4⟩)
/-- a string of one byte -/
def SQ.s1 {T : TypeId} {g : Nat} : SQ (RG T g) := SQ.of' (fun v _ => ∃ S : ByteArray, v = .string S ∧ S.size = 1) (fun _ _ _ _ x => x)
section steps
variable {R : Rel} {P : Program} {ops : Array Oper} {W : World} {ks : List Nat} {vs : List (SQ R)} {T : Act → World → Prop} {k : Nat} {o : Oper} {rest : List Oper} {s : Nat → Option Value} {a : Act} {w : World}
/-- an operation that leaves the world; its value fulfils a predicate -/
theorem y_tell (q : Value → World → Prop) (hw : Region.wanted o (yielded ops a.tmps) = true) (hk : ks.getD k 0 = 2) (hn : (vs.getD k SQ.any).nw = false) (hq : (vs.getD k SQ.any).p = q)
    (hrun : ∀ w', R.r W w' → (∀ j v, edge o j = true → ks.getD j 0 = 2 → s j = some v → qvals vs j v w') → ∃ v, (execOp a.eval o).run P w' = .ok (.value v) w' ∧ q v w')
    (h : ∀ v w', R.r w w' → q v w' → WalkY P ops W ks vs T (k + 1) rest (upd s k (some v)) (a.put o.dst v) w') : WalkY P ops W ks vs T k (o :: rest) s a w :=
  ⟨K2.Walk.told hw hk (fun w' _ hx hp => by
      obtain ⟨v, hr, hv⟩ := hrun w' hx hp
      rw [hr]
      exact ⟨trivial, R.re _, by unfold qvals; rw [hq]; exact hv, qApart vs hn _ _⟩)
    (fun v w' _ hx hv _ => (h v w' hx (by unfold qvals at hv; rw [hq] at hv; exact hv)).out)⟩
/-- a call whose value fulfils a predicate -/
theorem y_callq {f : FuncId} {args : Array Value} (q : Value → World → Prop) (hw : Region.wanted o (yielded ops a.tmps) = true) (hk : ks.getD k 0 = 2) (hn : (vs.getD k SQ.any).nw = false) (hq : (vs.getD k SQ.any).p = q) (hrun : ∀ w', (execOp a.eval o).run P w' = .ok (.enter f args) w')
    (hcall : ∀ w', R.r W w' → Calls P f args w' fun e w'' => ∃ v, e = .returned v ∧ R.r w' w'' ∧ q v w'')
    (h : ∀ v w', R.r w w' → q v w' → WalkY P ops W ks vs T (k + 1) rest (upd s k (some v)) (a.put o.dst v) w') : WalkY P ops W ks vs T k (o :: rest) s a w :=
  y_call hw hk hn hrun (fun w' hx hp => (hcall w' hx).mono fun e w'' ⟨v, he, hx', hv⟩ => ⟨v, he, hx', by unfold qvals; rw [hq]; exact hv⟩)
    (fun v w' hx hv => h v w' hx (by unfold qvals at hv; rw [hq] at hv; exact hv))
end steps
theorem sum_size (a b : ByteArray) : (a ++ b).size = a.size + b.size := ByteArray.size_append
theorem cut_size (a : ByteArray) {i j : Nat} (h : i ≤ j) (h2 : j ≤ a.size) : (a.extract i j).size = j - i := by rw [ByteArray.size_extract]; omega
end Go.K
namespace Go.Proofs.YtmgocfdhngeeiaaGreatDoor
open Go.RowKit
set_option maxRecDepth 100000 in
set_option maxHeartbeats 6400000 in
theorem l01Damage_any (g : Nat) (t : ByteArray) (w : World) (ht : t.size ≤ 100000) (h : K.Src 104 w g) :
    Calls Tryz.prog 42 #[.pointer (some ⟨g, 0, none⟩), .string t] w fun e w' => (∃ u : ByteArray, e = .returned (.string u) ∧ u.size ≤ t.size + 1) ∧ K.Src 104 w' g ∧ K.Far g (g + 1) w w' := by
  have lg := h.lt
  have F0 : K.Far g (g + 1) w w := K.Far.refl _ _ _
  go_enter Tryz.func42, Tryz.ntmps42
  go_wp2_with fail
  refine K.call (by with_reducible rfl) (by with_reducible rfl) (l01Next_any g _ _ (K.bsr h)) ?_
  rintro e w1 ⟨⟨r, rfl, r0, r1, r2⟩, s1, f1⟩
  have z1 := f1.size
  obtain ⟨k, rfl⟩ : ∃ k : Nat, r = (k : Int) := ⟨r.toNat, by omega⟩
  have hk : k ≤ t.size := by omega
  have k0 : (0 : Int) ≤ (k : Int) := Int.natCast_nonneg k
  have k1 : (k : Int) ≤ (t.size : Int) := by omega
  clear r1
  go_wp2_with fail
  refine K.call (by with_reducible rfl) (by with_reducible rfl) (l01Next_any g 8 _ (K.bsr s1)) ?_
  rintro e w2 ⟨⟨n, rfl, n0, n1, n2⟩, s2, f2⟩
  have z2 := f2.size
  have F2 : K.Far g (g + 1) w w2 := f1.trans f2
  have cA := Z.hide (K.cut_size t (Nat.zero_le k) hk)
  have cB := Z.hide (K.cut_size t hk (Nat.le_refl _))
  by_cases e0 : n = 0
  · subst e0
    go_wp2
    go_ret
    exact ⟨⟨_, rfl, by have := cA.out; omega⟩, s2, F2⟩
  · by_cases e1 : n = 1
    · subst e1
      go_wp2_with fail
      refine K.wp_region_y (R := K.RG 104 g) 13 [0, 0, 0, 2, 0, 2, 2, 2, 0, 0, 0, 0, 0] [K.SQ.any, K.SQ.any, K.SQ.any, K.SQ.sl 8 (g + 1) (Nat.le_refl _) (.cells #[.string ⟨#[48]⟩, .string ⟨#[35]⟩, .string ⟨#[46]⟩, .string ⟨#[47]⟩, .string ⟨#[32]⟩, .string ⟨#[97]⟩, .string ⟨#[45]⟩, .string ⟨#[10]⟩] 9), K.SQ.any, K.SQ.lt_ 8, K.SQ.at1, K.SQ.s1] (by kernel_rfl) (by kernel_rfl) ?_
      simp only [List.take_succ_cons, List.take_zero, List.drop_succ_cons, List.drop_zero]
      apply K.y_pure
      · rfl
      · rfl
      · intro w'; go_simp; first | done | exact K.vint (IntWalk.i64_in _ (by omega)) | rfl | exact ⟨rfl, rfl⟩
      simp only [Act.put, List.setIfInBounds_toArray, List.set]
      apply K.y_pure
      · rfl
      · rfl
      · intro w'; go_simp; first | done | exact K.vint (IntWalk.i64_in _ (by omega)) | rfl | exact ⟨rfl, rfl⟩
      simp only [Act.put, List.setIfInBounds_toArray, List.set]
      apply K.y_pure
      · rfl
      · rfl
      · intro w'; go_simp; first | done | exact K.vint (IntWalk.i64_in _ (by omega)) | rfl | exact ⟨rfl, rfl⟩
      simp only [Act.put, List.setIfInBounds_toArray, List.set]
      generalize t.extract 0 k = A at *
      apply K.y_newsl (Nat.le_refl _)
      · rfl
      · rfl
      · rfl
      · show g + 1 ≤ w2.heap.size; omega
      · intro w'; go_simp; first | done | rfl | exact ⟨rfl, rfl⟩
      intro g3 w_3 hx_3 hg3 hb_3 hn_3
      simp only [Act.put, List.setIfInBounds_toArray, List.set]
      apply K.y_pure
      · rfl
      · rfl
      · intro w'; go_simp; first | done | exact K.vint (IntWalk.i64_in _ (by omega)) | rfl | exact ⟨rfl, rfl⟩
      simp only [Act.put, List.setIfInBounds_toArray, List.set]
      apply K.y_callq (K.SQ.lt_ 8).p
      · rfl
      · rfl
      · rfl
      · rfl
      · intro w'; go_simp; first | done | rfl | exact ⟨rfl, rfl⟩
      · intro w' hx
        exact (l01Next_any g 8 w' (hx.2 s2.drew)).mono fun e w'' ⟨⟨r, he, a0, a1, a2⟩, hs, hf⟩ => ⟨_, he, ⟨hf, fun _ => hs⟩, ⟨r, rfl, a0, by omega⟩⟩
      intro v5 w_5 hx_5 hq5
      obtain ⟨r5, rfl, p0, p1⟩ := hq5
      obtain ⟨i, rfl⟩ : ∃ i : Nat, r5 = (i : Int) := ⟨r5.toNat, by omega⟩
      have hi8 : i < 8 := by omega
      simp only [Act.put, List.setIfInBounds_toArray, List.set]
      apply K.y_tell (K.SQ.at1).p
      · rfl
      · rfl
      · rfl
      · rfl
      · intro w' hx hp
        obtain ⟨g', hv, hg', hb'⟩ := (show K.NewB (g + 1) (K.slAt 8) _ _ w' from hp 3 _ (by kernel_rfl) rfl rfl)
        obtain rfl : g3 = g' := by simp only [K.slAt, Value.slice.injEq, Option.some.injEq, Addr.mk.injEq, and_true] at hv; exact hv
        have hc : ∃ S : ByteArray, w'.cell? ⟨g3, i, none⟩ = some (.string S) ∧ S.size = 1 := by
          match i, hi8 with
          | 0, _ => exact ⟨_, K.cell_at hb' rfl, rfl⟩
          | 1, _ => exact ⟨_, K.cell_at hb' rfl, rfl⟩
          | 2, _ => exact ⟨_, K.cell_at hb' rfl, rfl⟩
          | 3, _ => exact ⟨_, K.cell_at hb' rfl, rfl⟩
          | 4, _ => exact ⟨_, K.cell_at hb' rfl, rfl⟩
          | 5, _ => exact ⟨_, K.cell_at hb' rfl, rfl⟩
          | 6, _ => exact ⟨_, K.cell_at hb' rfl, rfl⟩
          | 7, _ => exact ⟨_, K.cell_at hb' rfl, rfl⟩
        obtain ⟨S, hc, hS⟩ := hc
        refine ⟨.pointer (some ⟨g3, i, none⟩), ?_, ⟨g3, i, S, rfl, hc, hS, hg'⟩⟩
        clear hb' hc hv
        go_simp
        all_goals first | rfl | exact ⟨rfl, rfl⟩
      intro v6 w_6 hx_6 hq6
      obtain ⟨b6, j6, _, rfl, _, _, _⟩ := hq6
      simp only [Act.put, List.setIfInBounds_toArray, List.set]
      apply K.y_tell (K.SQ.s1).p
      · rfl
      · rfl
      · rfl
      · rfl
      · intro w' hx hp
        obtain ⟨b', j', S, hv, hc, hS, _⟩ := (show (K.SQ.at1 (T := 104) (g := g)).p _ w' from hp 6 _ (by kernel_rfl) rfl rfl)
        simp only [Value.pointer.injEq, Option.some.injEq, Addr.mk.injEq, and_true] at hv
        obtain ⟨rfl, rfl⟩ := hv
        refine ⟨.string S, ?_, ⟨S, rfl, hS⟩⟩
        go_simp
        all_goals first | rfl | exact ⟨rfl, rfl⟩
      intro v7 w_7 hx_7 hq7
      obtain ⟨S, rfl, hS⟩ := hq7
      have HS1 := Z.hide hS
      have o1 : ¬ (9223372036854775807 < A.size + S.size) := by have := cA.out; omega
      have HAS : Hid ((A ++ S).size = k + 1) := Z.hide (by have := cA.out; rw [K.sum_size]; omega)
      clear hS
      simp only [Act.put, List.setIfInBounds_toArray, List.set]
      apply K.y_pure
      · rfl
      · rfl
      · intro w'; go_simp; first | done | exact K.vint (IntWalk.i64_in _ (by omega)) | rfl | exact ⟨rfl, rfl⟩
      simp only [Act.put, List.setIfInBounds_toArray, List.set]
      generalize A ++ S = AS at *
      apply K.y_pure
      · rfl
      · rfl
      · intro w'; go_simp; first | done | exact K.vint (IntWalk.i64_in _ (by omega)) | rfl | exact ⟨rfl, rfl⟩
      simp only [Act.put, List.setIfInBounds_toArray, List.set]
      apply K.y_pure
      · rfl
      · rfl
      · intro w'; go_simp; first | done | exact K.vint (IntWalk.i64_in _ (by omega)) | rfl | exact ⟨rfl, rfl⟩
      simp only [Act.put, List.setIfInBounds_toArray, List.set]
      apply K.y_pure
      · rfl
      · rfl
      · intro w'; go_simp; first | done | exact K.vint (IntWalk.i64_in _ (by omega)) | rfl | exact ⟨rfl, rfl⟩
      simp only [Act.put, List.setIfInBounds_toArray, List.set]
      generalize t.extract k t.size = B at *
      have o2 : ¬ (9223372036854775807 < AS.size + B.size) := by have := cB.out; have := HAS.out; omega
      apply K.y_pure
      · rfl
      · rfl
      · intro w'; go_simp; first | done | exact K.vint (IntWalk.i64_in _ (by omega)) | rfl | exact ⟨rfl, rfl⟩
      simp only [Act.put, List.setIfInBounds_toArray, List.set]
      apply K.y_done
      intro w3 h3
      have hf := (((hx_3.1.trans hx_5.1).trans hx_6.1).trans hx_7.1).trans h3.1
      have hs3 := h3.2 (hx_7.2 (hx_6.2 (hx_5.2 (hx_3.2 s2.drew))))
      have F3 : K.Far g (g + 1) w w3 := (F2.drew).trans hf
      have hsz : (AS ++ B).size ≤ t.size + 1 := by have := cB.out; have := HAS.out; rw [K.sum_size]; omega
      go_wp2_with fail
      refine NoPanic.normal ?_
      go_wp2
      go_ret
      exact ⟨⟨_, rfl, hsz⟩, hs3, F3⟩
    · by_cases e2 : n = 2
      · subst e2
        by_cases hkt : k < t.size
        · have k2 : (k : Int) < (t.size : Int) := by omega
          have k3 : (k : Int) + 1 ≤ (t.size : Int) := by omega
          have k4 : (0 : Int) ≤ (k : Int) + 1 := by omega
          have cC := Z.hide (K.cut_size t (show k + 1 ≤ t.size by omega) (Nat.le_refl _))
          have o1 : ¬ (9223372036854775807 < k + (t.size - (k + 1))) := by omega
          have osz : (t.extract 0 k ++ t.extract (k + 1) t.size).size ≤ t.size + 1 := by have := cA.out; have := cC.out; rw [K.sum_size]; omega
          have HSZ := Z.hide osz
          clear osz
          go_wp2_with fail
          refine K.wp_region_x 8 [0, 0, 0, 0, 0, 0, 0, 0] [] (by kernel_rfl) (by kernel_rfl) ?_
          simp only [List.take_succ_cons, List.take_zero, List.drop_succ_cons, List.drop_zero]
          iterate 8
            refine K.xp ?_
            simp only [Act.put, List.setIfInBounds_toArray, List.set]
          apply K.x_done
          intro w3 h_x
          have hx3 := K.Ext.id h_x
          clear h_x
          obtain ⟨⟨hcw3, hfw3⟩, hc'w3, hf'w3⟩ := hx3.all
          go_wp2_with fail
          refine NoPanic.normal ?_
          have X3 : K.Ext w2 w3 := ((K.Ext.refl _).drew).trans hx3
          go_wp2
          go_ret
          exact ⟨⟨_, rfl, HSZ.out⟩, s2.ext X3, F2.trans (K.Far.of_ext X3)⟩
        · have k2 : ¬ ((k : Int) < (t.size : Int)) := by omega
          go_wp2
          go_ret
          exact ⟨⟨_, rfl, by omega⟩, s2, F2⟩
      · go_wp2
        go_ret
        exact ⟨⟨_, rfl, by omega⟩, s2, F2⟩
end Go.Proofs.YtmgocfdhngeeiaaGreatDoor
end
section
namespace Go.Proofs.YtmgocfdhngeeiaaGreatDoor
open Go.RowKit
theorem strVals_snoc (ps : List (List UInt8)) (p : List UInt8) : strVals (ps ++ [p]) = strVals ps ++ [Value.string (Z.str p)] := by simp [strVals]
theorem join_any (ps : List (List UInt8)) (c : UInt8) {base : Nat} {v : Value} (w : World) (hps : ps ≠ []) (hlen : (Z.joinB c ps).length ≤ 1048576) (hn : ps.length ≤ 1048576) (h : w.ownsRow base 9 1 v ps.length (strVals ps)) :
    Calls Tryz.prog 77 #[v, .string ⟨#[c]⟩] w fun e w' => e = .returned (.string (Z.str (Z.joinB c ps))) ∧ K.Ext w w' := by
  rcases h.2 with ⟨_, h0⟩ | ⟨g, cap, cur, rfl, hb, hg, hnc, _⟩
  · exact absurd (List.eq_nil_of_length_eq_zero h0) hps
  have hm : (ps.map Z.str).map (·.data.toList) = ps := by rw [List.map_map]; conv => rhs; rw [← List.map_id ps]
                                                          exact List.map_congr_left fun p _ => Z.str_bytes p
  have hj := Z.intercalate_join c ps
  have HC := Tryz.strings_Join g 0 cap (ps.map Z.str) ⟨#[c]⟩ w (fun j x hx => by
    have hj : j < ps.length := by have := (List.getElem?_eq_some_iff.1 hx).1; simpa using this
    have := h.cellAt j (by omega)
    rw [Nat.zero_add, this]
    rw [List.getElem?_map] at hx
    simp only [strVals]
    obtain ⟨q, hq, rfl⟩ := Option.map_eq_some_iff.1 hx
    rw [List.getElem?_map, hq]; rfl) (Array.getElem?_eq_some_iff.1 hg).1 (by simp; omega) (by simp; omega) (by rw [hm]; show (Lib.join ps [c]).length ≤ _; rw [hj]; omega)
  rw [List.length_map, hm] at HC
  refine HC.mono fun e w' ⟨he, hw⟩ => ⟨?_, hw⟩
  rw [he]
  show Ending.returned (.string ⟨(Lib.join ps [c]).toArray⟩) = _
  rw [hj]; rfl
end Go.Proofs.YtmgocfdhngeeiaaGreatDoor
end
section
namespace Go.Proofs.YtmgocfdhngeeiaaGreatDoor
open Go.RowKit
set_option maxHeartbeats 3200000 in
theorem stepText_0 (ms ts : Int)  (w : World)   :
    Calls Tryz.prog 76 #[.agg #[.int .i64 0, .int .u8 ms, .int .i64 ts]] w fun e w' => e = .returned (.string (Z.str (Z.stepText ⟨0, ms, ts⟩))) ∧ K.Ext w w' := by
  have HE : Hid (Z.str (Z.stepText ⟨0, ms, ts⟩) = ⟨#[119]⟩) := Z.hide (Z.stepText_0 ms ts)
  have X0 : K.Ext w w := K.Ext.refl w
  go_enter Tryz.func76, Tryz.ntmps76
  go_wp2_with fail
  rw [HE.out]
  refine bodyPost_ret (v := .string ⟨#[119]⟩) (by unfold results; rw [Tryz.results76]; go_simp) rfl ⟨rfl, ?_⟩
  repeat with_reducible refine K.Ext.setCell ?_ (by dsimp only; omega) _
  exact (by repeat' (first | with_reducible exact X0 | with_reducible refine K.Ext.setCell ?_ ?_ _ | with_reducible refine K.Ext.alloc ?_ _ | with_reducible refine K.Ext.drew ?_ | (dsimp only; omega) | omega | (simp; omega)))
set_option maxHeartbeats 3200000 in
theorem stepText_2 (ms ts : Int)  (w : World) (h1 : -6 ≤ ts) (h2 : ts ≤ 6) (hL : LTab w)  :
    Calls Tryz.prog 76 #[.agg #[.int .i64 2, .int .u8 ms, .int .i64 ts]] w fun e w' => e = .returned (.string (Z.str (Z.stepText ⟨2, ms, ts⟩))) ∧ K.Ext w w' := by
  have HE := Z.hide (Z.stepText_2 ms ts)
  have HD : ∀ w', K.Ext w w' → Calls Tryz.prog 87 #[.int .i64 ts] w' fun e w'' => e = .returned (.string (Z.dec ts)) ∧ K.Ext w' w'' := fun w' hx => decimal_any _ w' (by omega) (by omega) (hL.ext hx)
  have hds := (Z.dec_size (n := ts) (by omega) (by omega)).2
  generalize Z.dec ts = D at *
  have o1 : ¬ (9223372036854775807 < 1 + D.size) := by omega
  clear hL
  have X0 : K.Ext w w := K.Ext.refl w
  go_enter Tryz.func76, Tryz.ntmps76
  go_wp2_with (go_at_call 87; refine K.call (by with_reducible rfl) (by with_reducible rfl) (HD _ (K.bel)) ?_; rintro e w1 ⟨rfl, x1⟩; have s1 : w.heap.size + 1 ≤ w1.heap.size := (by have h_ := x1.size; (try simp at h_); omega); have X1 := K.Ext.trans (K.Ext.alloc X0 _) x1; obtain ⟨c1_0_0, c1_0_1, c1_0_2⟩ := K.c3 x1 (w.heap.size) (.int .i64 2) (.int .u8 ms) (.int .i64 ts) (by go_simp); have z1_0 : w.heap.size < w1.heap.size := World.block_lt_of_cell? w1 _ c1_0_0; have d1_0 : ¬ (w.heap.size = w1.heap.size) := (by omega); have e1_0 : ¬ (w1.heap.size = w.heap.size) := (by omega))
  rw [HE.out]
  refine bodyPost_ret (v := .string ((⟨#[114]⟩) ++ D)) (by unfold results; rw [Tryz.results76]; go_simp) rfl ⟨rfl, ?_⟩
  repeat with_reducible refine K.Ext.setCell ?_ (by dsimp only; omega) _
  exact (by repeat' (first | with_reducible exact X1 | with_reducible refine K.Ext.setCell ?_ ?_ _ | with_reducible refine K.Ext.alloc ?_ _ | with_reducible refine K.Ext.drew ?_ | (dsimp only; omega) | omega | (simp; omega)))
set_option maxHeartbeats 6400000 in
theorem stepText_1 (ms ts : Int)  (w : World) (hb : 0 ≤ ms ∧ ms ≤ 255) (h1 : -6 ≤ ts) (h2 : ts ≤ 6) (hL : LTab w)  :
    Calls Tryz.prog 76 #[.agg #[.int .i64 1, .int .u8 ms, .int .i64 ts]] w fun e w' => e = .returned (.string (Z.str (Z.stepText ⟨1, ms, ts⟩))) ∧ K.Ext w w' := by
  have HE := Z.hide (Z.stepText_1 ms ts)
  have HD : ∀ w', K.Ext w w' → Calls Tryz.prog 87 #[.int .i64 ts] w' fun e w'' => e = .returned (.string (Z.dec ts)) ∧ K.Ext w' w'' := fun w' hx => decimal_any _ w' (by omega) (by omega) (hL.ext hx)
  have hds := (Z.dec_size (n := ts) (by omega) (by omega)).2
  generalize Z.dec ts = D at *
  have o1 : ¬ (9223372036854775807 < 2 + D.size) := by omega
  have o2 : ¬ (9223372036854775807 < 1 + 1 + D.size) := by omega
  clear hL
  have X0 : K.Ext w w := K.Ext.refl w
  go_enter Tryz.func76, Tryz.ntmps76
  go_wp2_with fail
  refine K.wp_region_x 9 [0, 1, 2, 2, 0, 0, 1, 2, 0] [K.SP.any, K.SP.any, K.SP.sl (w.heap.size + 1) (.cells #[.int .u8 ms] 5), K.SP.is (.string ⟨#[UInt8.ofNat ms.toNat]⟩), K.SP.any, K.SP.any, K.SP.any, K.SP.is (.string D)] (by kernel_rfl) (by kernel_rfl) ?_
  simp only [List.take_succ_cons, List.take_zero, List.drop_succ_cons, List.drop_zero]
  refine K.xp ?_
  simp only [Act.put, List.setIfInBounds_toArray, List.set]
  refine K.xh ?_
  simp only [Act.put, List.setIfInBounds_toArray, List.set]
  apply K.x_newsl
  · rfl
  · rfl
  · rfl
  · go_simp; first | done | omega
  · intro w'; go_simp; first | done | rfl | exact ⟨rfl, rfl⟩
  intro g5_2 w_2_ hx_2_ hg5_2 hb_2_
  simp only [Act.put, List.setIfInBounds_toArray, List.set]
  apply K.x_op_is
  · rfl
  · rfl
  · rfl
  · intro w' hx hp; have hc := hx.all.1.1; have hf := hx.all.1.2; have hc' := hx.all.2.1; have hf' := hx.all.2.2; have hq_ := K.byte_str (P := Tryz.prog) (src := 22) (dst := 9) Tryz.underlying22 Tryz.underlying5 Tryz.underlying9 hb.1 hb.2 (K.SP.sl_at (hp 2 _ (by kernel_rfl) rfl rfl)); go_simp; first | done | rfl
  intro w_3_ hx_3_
  simp only [Act.put, List.setIfInBounds_toArray, List.set]
  iterate 2
    refine K.xp ?_
    simp only [Act.put, List.setIfInBounds_toArray, List.set]
  refine K.xh ?_
  simp only [Act.put, List.setIfInBounds_toArray, List.set]
  apply K.x_call_is
  · rfl
  · rfl
  · rfl
  · intro w'; go_simp; first | done | rfl | exact ⟨rfl, rfl⟩
  · intro w' hx hp; have hc := hx.all.1.1; have hf := hx.all.1.2; have hc' := hx.all.2.1; have hf' := hx.all.2.2; exact HD _ ((((K.Ext.refl _).alloc _).drew).trans hx)
  intro w_7_ hx_7_
  simp only [Act.put, List.setIfInBounds_toArray, List.set]
  refine K.xp ?_
  simp only [Act.put, List.setIfInBounds_toArray, List.set]
  apply K.x_done
  intro w1 h_x
  have x1 := hx_2_.trans (hx_3_.trans (hx_7_.trans h_x))
  have hb5_2 := K.Ext.block (hx_3_.trans (hx_7_.trans h_x)) hb_2_
  have cg5_2_0 : w1.cell? ⟨g5_2, 0, none⟩ = some (.int .u8 ms) := K.cell_at hb5_2 rfl
  have fg5_2_0 : w1.frozen? ⟨g5_2, 0, none⟩ = false := K.thaw_at hb5_2
  clear h_x hx_2_ hx_3_ hx_7_
  obtain ⟨⟨hcw1, hfw1⟩, hc'w1, hf'w1⟩ := x1.all
  have s1 : w.heap.size + 1 ≤ w1.heap.size := (by have h_ := x1.size; (try simp at h_); omega)
  have X1 := K.Ext.trans (K.Ext.drew (K.Ext.alloc X0 _)) x1
  obtain ⟨c1_0_0, c1_0_1, c1_0_2⟩ := K.c3 x1 (w.heap.size) (.int .i64 1) (.int .u8 ms) (.int .i64 ts) (by go_simp)
  have z1_0 : w.heap.size < w1.heap.size := World.block_lt_of_cell? w1 _ c1_0_0
  have d1_0 : ¬ (w.heap.size = w1.heap.size) := (by omega)
  have e1_0 : ¬ (w1.heap.size = w.heap.size) := (by omega)
  go_wp2_with fail
  refine NoPanic.normal ?_
  go_wp2_with fail
  rw [HE.out]
  refine bodyPost_ret (v := .string (((⟨#[120]⟩) ++ (⟨#[UInt8.ofNat ms.toNat]⟩)) ++ D)) (by unfold results; rw [Tryz.results76]; go_simp) rfl ⟨rfl, ?_⟩
  repeat with_reducible refine K.Ext.setCell ?_ (by dsimp only; omega) _
  exact (by repeat' (first | with_reducible exact X1 | with_reducible refine K.Ext.setCell ?_ ?_ _ | with_reducible refine K.Ext.alloc ?_ _ | with_reducible refine K.Ext.drew ?_ | (dsimp only; omega) | omega | (simp; omega)))
theorem stepText_any (s : Z.St) (w : World) (hs : Z.isStep s = true) (hL : LTab w) :
    Calls Tryz.prog 76 #[.agg #[.int .i64 s.kd, .int .u8 s.nm, .int .i64 s.pw]] w fun e w' => e = .returned (.string (Z.str (Z.stepText s))) ∧ K.Ext w w' := by
  rcases Z.step_kinds3 hs with ⟨m, t, rfl⟩ | ⟨m, t, rfl, b0, b1, h1, h2⟩ | ⟨t, rfl, h1, h2⟩
  · exact stepText_0 m t w
  · exact stepText_1 m t w ⟨b0, b1⟩ h1 h2 hL
  · exact stepText_2 0 t w h1 h2 hL
set_option maxRecDepth 100000 in
set_option maxHeartbeats 6400000 in
theorem impl_StepsText (xs : List Z.St) {lo hi : Nat} {v : Value} (w : World) (hm : xs.length ≤ 1048576) (h : K.recs false K.StR w lo hi v xs) (hL : LTab w) :
    Calls Tryz.prog 23 #[v] w fun e w' => e = .returned (.tuple #[.string (Z.StepsText xs).1, .int .i64 (Z.StepsText xs).2]) ∧ K.Ext w w' := by
  have h1 := h
  obtain ⟨o, cap, rfl, _⟩ := h1
  have HH := Z.hide h
  have HT := Z.hide hL
  obtain ⟨c, hcd⟩ : ∃ c, c = Z.stCode xs := ⟨_, rfl⟩
  have HK : ∀ w' : World, K.Ext w w' → Calls Tryz.prog 75 #[.slice o xs.length cap] w' fun e w'' => e = .returned (.int .i64 c) ∧ K.Ext w' w'' := fun w' hx => by have h_ := checkSteps_any xs w' hm (HH.out.ext hx); rwa [← hcd] at h_
  by_cases hc : c = 0
  · subst hc
    have hc := hcd.symm
    have HE : Hid (Z.StepsText xs = (Z.stepsText xs, 0)) := Z.hide (by unfold Z.StepsText; rw [if_pos hc])
    have HV := Z.hide (Z.code_valid hc)
    obtain ⟨it0, hi0, hz0, hz1, hz2⟩ := info_parts info_str
    obtain ⟨n, hn⟩ : ∃ n, n = xs.length := ⟨_, rfl⟩
    have HN := Z.hide hn
    rw [← hn] at HK hm ⊢
    have hn12 : n ≤ 12 := by rw [hn]; exact Z.code_len hc
    clear h hc hn hL hcd
    go_enter Tryz.func23, Tryz.ntmps23
    go_wp2_with ((go_at_call 75; refine K.call (by with_reducible rfl) (by with_reducible rfl) (HK _ (K.Ext.refl _)) ?_; rintro e w1 ⟨rfl, hw1⟩))
    have HX1 := Z.hide hw1
    have lw1 := hw1.size
    clear HK hw1
    go_loopw [5, 16] (fun s i wr => ∃ k : Nat, k ≤ n ∧ i = .int .i64 k ∧ Hid (wr.ownsRow w.heap.size 9 1 s k (strVals (Z.stTexts xs k))) ∧ Hid (K.Ext w wr)) (fun _ i _ => n - (intOf i).toNat)
    case atStart => exact ⟨0, Nat.zero_le _, rfl, Z.hide (World.ownsRow_lit _ _ _ (by omega) (by decide) rfl), Z.hide (HX1.out.alloc _)⟩
    case round =>
      obtain ⟨k, hk, rfl, HO, HX⟩ := hrel
      by_cases hlt : k < n
      · have hkn : k < xs.length := by rw [← HN.out]; exact hlt
        obtain ⟨b, off, rfl, _, _, hc, _⟩ := K.recs_at HH.out (by omega)
        have hc0 : wr.cell? ⟨b, off + k * 3, none⟩ = some (.int .i64 (xs[k]'hkn).kd) := HX.out.cell_of (hc k hkn 0 (by decide))
        have hc1 : wr.cell? ⟨b, off + k * 3 + 1, none⟩ = some (.int .u8 (xs[k]'hkn).nm) := HX.out.cell_of (hc k hkn 1 (by decide))
        have hc2 : wr.cell? ⟨b, off + k * 3 + 2, none⟩ = some (.int .i64 (xs[k]'hkn).pw) := HX.out.cell_of (hc k hkn 2 (by decide))
        have hv := Z.hide (HV.out (xs[k]'hkn) (List.getElem_mem hkn))
        have HN1 := Z.hide (Z.stTexts_succ hkn)
        have k0 : (0 : Int) ≤ (k : Int) := Int.natCast_nonneg k
        have k1 : (k : Int) < (n : Int) := by omega
        have lbw : wr.heap.size ≠ b := by have := World.block_lt_of_cell? wr _ hc0; simp only at this; omega
        have lw := HX.out.size
        have HTr := Z.hide (HT.out.ext HX.out)
        clear hc
        obtain ⟨s, hs⟩ : ∃ s, s = (xs[k]'hkn) := ⟨_, rfl⟩
        rw [← hs] at hc0 hc1 hc2 hv HN1
        clear hs
        have HC : ∀ w', K.Ext wr w' → Calls Tryz.prog 76 #[.agg #[.int .i64 s.kd, .int .u8 s.nm, .int .i64 s.pw]] w' fun e w'' => e = .returned (.string (Z.str (Z.stepText s))) ∧ K.Ext w' w'' := fun w' hx => stepText_any s w' hv.out (HTr.out.ext hx)
        obtain ⟨B, hB⟩ : ∃ B, B = Z.str (Z.stepText s) := ⟨_, rfl⟩
        have HB := Z.hide hB
        rw [← hB] at HC
        clear hB
        obtain ⟨d, m, t0⟩ := s
        dsimp only at hc0 hc1 hc2 HC
        go_wp2_with (first | (go_at_call 76; refine K.call (by with_reducible rfl) (by with_reducible rfl) (HC _ K.bel) ?_; rintro e w2 ⟨rfl, f2⟩; have g2 : K.Ext wr w2 := K.bel; have l2 := g2.size; clear HC) | (at_builtin; refine wpList_append_lies _ rfl _ _ _ rfl w.heap.size 9 it0 _ 1 16 Tryz.underlying67 hi0 hz0 hz1 hz2 rfl (by omega) _ k _ rfl ((K.row_ext HO.out g2).alloc _) ⟨w2.heap.size, 0, none⟩ 1 1 [.string B] rfl rfl (World.news_of_block (cs := #[.string B]) (t := 9) (fr := (0, 0)) (K.block_new rfl)) (by simp [Value.oneCell']) (by omega) (by unfold maxLen; omega) (by omega) (by simp; omega) (w2.heap.size + 1) (by simp) ?_; intro g3 gcap3 w3 hown3 hgrow3 hat3 hlt3; have HO3 := Z.hide hown3; have HX3 : Hid (K.Ext w w3) := Z.hide (((HX.out.trans g2).alloc _).below.grown hgrow3 (by simp; omega) (fun g hg => (HO.out.lt g hg).1)); clear hown3 hgrow3 hat3 hlt3))
        go_roundw
        case rel => exact ⟨k + 1, by omega, by go_num, Z.hide (by have h_ := HO3.out; rw [HB.out] at h_; rw [HN1.out, strVals_snoc]; exact h_), HX3⟩
        case measure => first | (simp [intOf]; done) | (simp [intOf]; omega)
      · obtain rfl : k = n := by omega
        have hl := Z.stTexts_length (l := xs) (k := k) (by rw [← HN.out]; exact Nat.le_refl _)
        have HF : Hid (Z.stepsText xs = Z.str (Z.joinB 32 (Z.stTexts xs k))) := Z.hide (by unfold Z.stepsText; rw [← HN.out])
        have HJ := Z.hide (Z.stJoin_len HV.out k (by rw [← HN.out]; exact Nat.le_refl _))
        by_cases hp : k = 0
        · subst hp
          have HR : Hid (Z.stepsText xs = ⟨#[]⟩) := Z.hide (HF.out.trans rfl)
          rcases HO.out.2 with ⟨rfl, _⟩ | ⟨g, cc, cur, rfl, _⟩
          all_goals
            clear HO hl
            go_wp2_with fail
            refine K.call (by with_reducible rfl) (by with_reducible rfl) (Tryz.strings_Join_none _ _ _ _) ?_
            rintro e w2 ⟨rfl, rfl⟩
            go_wp2
            go_ret2
            exact ⟨by rw [HE.out, HR.out]; rfl, HX.out⟩
        · have hne : Z.stTexts xs k ≠ [] := fun e => hp (by rw [← hl, e]; rfl)
          have HK := join_any (Z.stTexts xs k) 32 wr hne (by have := HJ.out; omega) (by omega) (base := w.heap.size) (by rw [hl]; exact HO.out)
          rw [← HF.out] at HK
          obtain ⟨g, cc, rfl, _, _⟩ := HO.out.form (by omega)
          clear hne hl HO
          go_wp2_with fail
          refine K.call (by with_reducible rfl) (by with_reducible rfl) HK ?_
          rintro e w2 ⟨rfl, f2⟩
          go_wp2
          go_ret2
          exact ⟨by rw [HE.out]; rfl, HX.out.trans f2⟩
  · have HE : Hid (Z.StepsText xs = (⟨#[]⟩, c)) := Z.hide (by unfold Z.StepsText; rw [← hcd, if_neg hc])
    have hc' : (c == 0) = false := by simpa using hc
    clear hcd
    go_enter Tryz.func23, Tryz.ntmps23
    go_wp2_with ((go_at_call 75; refine K.call (by with_reducible rfl) (by with_reducible rfl) (HK _ (K.Ext.refl _)) ?_; rintro e w1 ⟨rfl, hw1⟩))
    go_ret2
    exact ⟨by rw [HE.out]; rfl, hw1⟩
set_option maxRecDepth 100000 in
set_option maxHeartbeats 6400000 in
theorem l21Text_any (xs : List Z.St) {lo hi : Nat} {v : Value} (w : World) (hv : ∀ s ∈ xs, Z.isStep s = true) (hm : xs.length ≤ 1048576) (h : K.recs false K.StR w lo hi v xs) :
    Calls Tryz.prog 79 #[v] w fun e w' => e = .returned (.string (Z.stepsText xs)) ∧ K.Ext w w' := by
  have h1 := h
  obtain ⟨o, cap, rfl, _⟩ := h1
  have HH := Z.hide h
  have HV := Z.hide hv
  obtain ⟨n, hn⟩ : ∃ n, n = xs.length := ⟨_, rfl⟩
  have HN := Z.hide hn
  rw [← hn] at hm ⊢
  clear h hn hv
  go_enter Tryz.func79, Tryz.ntmps79
  go_wp2
  go_loopw [3, 4] (fun s i wr => ∃ (k : Nat) (S : ByteArray), k ≤ n ∧ i = .int .i64 k ∧ s = .string S ∧ Hid (S = Z.str (Z.joinB 32 (Z.stTexts xs k))) ∧ S.size ≤ 23 * k ∧ Hid (K.Ext w wr)) (fun _ i _ => n - (intOf i).toNat)
  case atStart => exact ⟨0, ⟨#[]⟩, Nat.zero_le _, rfl, rfl, Z.hide rfl, by decide, Z.hide (K.Ext.refl _)⟩
  case round =>
    obtain ⟨k, S, hk, rfl, rfl, HS, hs, HX⟩ := hrel
    by_cases hlt : k < n
    · have hkn : k < xs.length := by rw [← HN.out]; exact hlt
      obtain ⟨b, off, rfl, _, _, hc, _⟩ := K.recs_at HH.out (by omega)
      have hc0 : wr.cell? ⟨b, off + k * 3, none⟩ = some (.int .i64 (xs[k]'hkn).kd) := HX.out.cell_of (hc k hkn 0 (by decide))
      have hc1 : wr.cell? ⟨b, off + k * 3 + 1, none⟩ = some (.int .u8 (xs[k]'hkn).nm) := HX.out.cell_of (hc k hkn 1 (by decide))
      have hc2 : wr.cell? ⟨b, off + k * 3 + 2, none⟩ = some (.int .i64 (xs[k]'hkn).pw) := HX.out.cell_of (hc k hkn 2 (by decide))
      have hv := Z.hide (HV.out (xs[k]'hkn) (List.getElem_mem hkn))
      have HJ := Z.hide (Z.stJoin_len HV.out (k + 1) (by omega))
      have HM := Z.hide (fun (h0 : 0 < k) => Z.stStr_more hkn h0 HS.out)
      have HF : Hid (k = 0 → Z.str (Z.joinB 32 (Z.stTexts xs (k + 1))) = S ++ Z.str (Z.stepText (xs[k]'hkn))) := Z.hide (by
        rintro rfl
        rw [Z.stStr_first hkn, HS.out]
        show _ = Z.str [] ++ _
        rw [Z.str_append]; rfl)
      have k0 : (0 : Int) ≤ (k : Int) := Int.natCast_nonneg k
      have k1 : (k : Int) < (n : Int) := by omega
      clear hc
      obtain ⟨s, hs'⟩ : ∃ s, s = (xs[k]'hkn) := ⟨_, rfl⟩
      rw [← hs'] at hc0 hc1 hc2 hv HM HF
      clear hs'
      obtain ⟨d, m, t0⟩ := s
      dsimp only at hc0 hc1 hc2
      have qk : IntKind.i64.wrap ((k : Int) + 1) = (k : Int) + 1 := IntWalk.i64_in _ (by omega)
      have HD : -6 ≤ t0 → t0 ≤ 6 → ∀ w', Calls Tryz.prog 88 #[.int .i64 t0] w' fun e w'' => e = .returned (.string (Z.dec t0)) ∧ K.Ext w' w'' := fun h1 h2 w' => l01Number_any _ w' (by omega) (by omega)
      have hds : -6 ≤ t0 → t0 ≤ 6 → (Z.dec t0).size ≤ 20 := fun h1 h2 => (Z.dec_size (n := t0) (by omega) (by omega)).2
      by_cases hz : k = 0
      · subst hz
        simp only [Nat.zero_mul, Nat.add_zero] at hc0 hc1 hc2
        have n0 : (0 : Int) < (n : Int) := by omega
        have HR := Z.hide (HF.out rfl)
        clear qk k0 k1
        have hR := congrArg ByteArray.size HR.out
        rw [Z.str_size] at hR
        have HRs := Z.hide hR
        clear hR HF HM
        rcases Z.step_kinds3 hv.out with ⟨m', t', h_⟩ | ⟨m', t', h_, b0, b1, h1, h2⟩ | ⟨t', h_, h1, h2⟩
        · obtain ⟨rfl, rfl, rfl⟩ := Z.St.mk.inj h_
          rw [Z.stepText_0] at HR HRs
          have o1 : ¬ (9223372036854775807 < S.size + 1) := by omega
          go_wp2
          go_roundw
          case rel => exact ⟨0 + 1, _, by omega, by go_num, rfl, Z.hide HR.out.symm, by rw [← HRs.out]; exact HJ.out, HX⟩
          case measure => first | (simp [intOf]; done) | (simp [intOf]; omega)
        · obtain ⟨rfl, rfl, rfl⟩ := Z.St.mk.inj h_
          rw [Z.stepText_1, ← ByteArray.append_assoc, ← ByteArray.append_assoc] at HR HRs
          have HD := HD h1 h2
          have hds := hds h1 h2
          generalize Z.dec t0 = D at *
          have o1 : ¬ (9223372036854775807 < S.size + 1) := by omega
          have o2 : ¬ (9223372036854775807 < S.size + 2) := by omega
          have o3 : ¬ (9223372036854775807 < S.size + 2 + D.size) := by omega
          have o4 : ¬ (9223372036854775807 < S.size + 1 + 1) := by omega
          have o5 : ¬ (9223372036854775807 < S.size + 1 + 1 + D.size) := by omega
          go_wp2_with fail
          refine K.wp_region_x 17 [0, 0, 0, 0, 0, 0, 1, 2, 2, 0, 0, 0, 0, 0, 1, 2, 0] [K.SP.any, K.SP.any, K.SP.any, K.SP.any, K.SP.any, K.SP.any, K.SP.any, K.SP.sl (wr.heap.size) (.cells #[.int .u8 m] 5), K.SP.is (.string ⟨#[UInt8.ofNat m.toNat]⟩), K.SP.any, K.SP.any, K.SP.any, K.SP.any, K.SP.any, K.SP.any, K.SP.is (.string D)] (by kernel_rfl) (by kernel_rfl) ?_
          simp only [List.take_succ_cons, List.take_zero, List.drop_succ_cons, List.drop_zero]
          iterate 6
            refine K.xp ?_
            simp only [Act.put, List.setIfInBounds_toArray, List.set]
          refine K.xh ?_
          simp only [Act.put, List.setIfInBounds_toArray, List.set]
          apply K.x_newsl
          · rfl
          · rfl
          · rfl
          · go_simp; first | done | omega
          · intro w'; go_simp; first | done | rfl | exact ⟨rfl, rfl⟩
          intro g12_7 w_7_ hx_7_ hg12_7 hb_7_
          simp only [Act.put, List.setIfInBounds_toArray, List.set]
          apply K.x_op_is
          · rfl
          · rfl
          · rfl
          · intro w' hx hp; have hc := hx.all.1.1; have hf := hx.all.1.2; have hc' := hx.all.2.1; have hf' := hx.all.2.2; have hq_ := K.byte_str (P := Tryz.prog) (src := 22) (dst := 9) Tryz.underlying22 Tryz.underlying5 Tryz.underlying9 b0 b1 (K.SP.sl_at (hp 7 _ (by kernel_rfl) rfl rfl)); go_simp; first | done | rfl
          intro w_8_ hx_8_
          simp only [Act.put, List.setIfInBounds_toArray, List.set]
          iterate 5
            refine K.xp ?_
            simp only [Act.put, List.setIfInBounds_toArray, List.set]
          refine K.xh ?_
          simp only [Act.put, List.setIfInBounds_toArray, List.set]
          apply K.x_call_is
          · rfl
          · rfl
          · rfl
          · intro w'; go_simp; first | done | rfl | exact ⟨rfl, rfl⟩
          · intro w' hx hp; have hc := hx.all.1.1; have hf := hx.all.1.2; have hc' := hx.all.2.1; have hf' := hx.all.2.2; exact HD _
          intro w_15_ hx_15_
          simp only [Act.put, List.setIfInBounds_toArray, List.set]
          refine K.xp ?_
          simp only [Act.put, List.setIfInBounds_toArray, List.set]
          apply K.x_done
          intro w2 h_x
          have hx2 := hx_7_.trans (hx_8_.trans (hx_15_.trans h_x))
          have hb12_7 := K.Ext.block (hx_8_.trans (hx_15_.trans h_x)) hb_7_
          have cg12_7_0 : w2.cell? ⟨g12_7, 0, none⟩ = some (.int .u8 m) := K.cell_at hb12_7 rfl
          have fg12_7_0 : w2.frozen? ⟨g12_7, 0, none⟩ = false := K.thaw_at hb12_7
          clear h_x hx_7_ hx_8_ hx_15_
          obtain ⟨⟨hcw2, hfw2⟩, hc'w2, hf'w2⟩ := hx2.all
          go_wp2_with fail
          refine NoPanic.normal ?_
          go_wp2
          go_roundw
          case rel => exact ⟨0 + 1, _, by omega, by go_num, rfl, Z.hide HR.out.symm, by rw [← HRs.out]; exact HJ.out, Z.hide (HX.out.trans (((K.Ext.refl _).drew).trans hx2))⟩
          case measure => first | (simp [intOf]; done) | (simp [intOf]; omega)
        · obtain ⟨rfl, rfl, rfl⟩ := Z.St.mk.inj h_
          rw [Z.stepText_2, ← ByteArray.append_assoc] at HR HRs
          have HD := HD h1 h2
          have hds := hds h1 h2
          generalize Z.dec t0 = D at *
          have o1 : ¬ (9223372036854775807 < S.size + 1) := by omega
          have o2 : ¬ (9223372036854775807 < S.size + 1 + D.size) := by omega
          go_wp2_with fail
          refine K.call (by with_reducible rfl) (by with_reducible rfl) (HD _) ?_
          rintro e w2 ⟨rfl, f2⟩
          go_wp2
          go_roundw
          case rel => exact ⟨0 + 1, _, by omega, by go_num, rfl, Z.hide HR.out.symm, by rw [← HRs.out]; exact HJ.out, Z.hide (HX.out.trans f2)⟩
          case measure => first | (simp [intOf]; done) | (simp [intOf]; omega)
      · have z0 : (0 : Int) < (k : Int) := by omega
        have z1 : 0 < k := by omega
        have HR := Z.hide (HM.out z1)
        have hR := congrArg ByteArray.size HR.out
        rw [Z.str_size] at hR
        have HRs := Z.hide hR
        clear hR HF HM
        rcases Z.step_kinds3 hv.out with ⟨m', t', h_⟩ | ⟨m', t', h_, b0, b1, h1, h2⟩ | ⟨t', h_, h1, h2⟩
        · obtain ⟨rfl, rfl, rfl⟩ := Z.St.mk.inj h_
          rw [Z.stepText_0] at HR HRs
          have o1 : ¬ (9223372036854775807 < S.size + 1) := by omega
          have o2 : ¬ (9223372036854775807 < S.size + 2) := by omega
          have o3 : ¬ (9223372036854775807 < S.size + 1 + 1) := by omega
          go_wp2
          go_roundw
          case rel => exact ⟨k + 1, _, by omega, by go_num, rfl, Z.hide HR.out.symm, by rw [← HRs.out]; exact HJ.out, HX⟩
          case measure => first | (simp [intOf]; done) | (simp [intOf]; omega)
        · obtain ⟨rfl, rfl, rfl⟩ := Z.St.mk.inj h_
          rw [Z.stepText_1, ← ByteArray.append_assoc, ← ByteArray.append_assoc] at HR HRs
          have HD := HD h1 h2
          have hds := hds h1 h2
          generalize Z.dec t0 = D at *
          have o1 : ¬ (9223372036854775807 < S.size + 1) := by omega
          have o2 : ¬ (9223372036854775807 < S.size + 2) := by omega
          have o3 : ¬ (9223372036854775807 < S.size + 3) := by omega
          have o4 : ¬ (9223372036854775807 < S.size + 3 + D.size) := by omega
          have o5 : ¬ (9223372036854775807 < S.size + 1 + 1) := by omega
          have o6 : ¬ (9223372036854775807 < S.size + 1 + 1 + 1) := by omega
          have o7 : ¬ (9223372036854775807 < S.size + 1 + 1 + 1 + D.size) := by omega
          go_wp2_with fail
          refine K.wp_region_x 17 [0, 0, 0, 0, 0, 0, 1, 2, 2, 0, 0, 0, 0, 0, 1, 2, 0] [K.SP.any, K.SP.any, K.SP.any, K.SP.any, K.SP.any, K.SP.any, K.SP.any, K.SP.sl (wr.heap.size) (.cells #[.int .u8 m] 5), K.SP.is (.string ⟨#[UInt8.ofNat m.toNat]⟩), K.SP.any, K.SP.any, K.SP.any, K.SP.any, K.SP.any, K.SP.any, K.SP.is (.string D)] (by kernel_rfl) (by kernel_rfl) ?_
          simp only [List.take_succ_cons, List.take_zero, List.drop_succ_cons, List.drop_zero]
          iterate 6
            refine K.xp ?_
            simp only [Act.put, List.setIfInBounds_toArray, List.set]
          refine K.xh ?_
          simp only [Act.put, List.setIfInBounds_toArray, List.set]
          apply K.x_newsl
          · rfl
          · rfl
          · rfl
          · go_simp; first | done | omega
          · intro w'; go_simp; first | done | rfl | exact ⟨rfl, rfl⟩
          intro g12_7 w_7_ hx_7_ hg12_7 hb_7_
          simp only [Act.put, List.setIfInBounds_toArray, List.set]
          apply K.x_op_is
          · rfl
          · rfl
          · rfl
          · intro w' hx hp; have hc := hx.all.1.1; have hf := hx.all.1.2; have hc' := hx.all.2.1; have hf' := hx.all.2.2; have hq_ := K.byte_str (P := Tryz.prog) (src := 22) (dst := 9) Tryz.underlying22 Tryz.underlying5 Tryz.underlying9 b0 b1 (K.SP.sl_at (hp 7 _ (by kernel_rfl) rfl rfl)); go_simp; first | done | rfl
          intro w_8_ hx_8_
          simp only [Act.put, List.setIfInBounds_toArray, List.set]
          iterate 5
            refine K.xp ?_
            simp only [Act.put, List.setIfInBounds_toArray, List.set]
          refine K.xh ?_
          simp only [Act.put, List.setIfInBounds_toArray, List.set]
          apply K.x_call_is
          · rfl
          · rfl
          · rfl
          · intro w'; go_simp; first | done | rfl | exact ⟨rfl, rfl⟩
          · intro w' hx hp; have hc := hx.all.1.1; have hf := hx.all.1.2; have hc' := hx.all.2.1; have hf' := hx.all.2.2; exact HD _
          intro w_15_ hx_15_
          simp only [Act.put, List.setIfInBounds_toArray, List.set]
          refine K.xp ?_
          simp only [Act.put, List.setIfInBounds_toArray, List.set]
          apply K.x_done
          intro w2 h_x
          have hx2 := hx_7_.trans (hx_8_.trans (hx_15_.trans h_x))
          have hb12_7 := K.Ext.block (hx_8_.trans (hx_15_.trans h_x)) hb_7_
          have cg12_7_0 : w2.cell? ⟨g12_7, 0, none⟩ = some (.int .u8 m) := K.cell_at hb12_7 rfl
          have fg12_7_0 : w2.frozen? ⟨g12_7, 0, none⟩ = false := K.thaw_at hb12_7
          clear h_x hx_7_ hx_8_ hx_15_
          obtain ⟨⟨hcw2, hfw2⟩, hc'w2, hf'w2⟩ := hx2.all
          go_wp2_with fail
          refine NoPanic.normal ?_
          go_wp2
          go_roundw
          case rel => exact ⟨k + 1, _, by omega, by go_num, rfl, Z.hide HR.out.symm, by rw [← HRs.out]; exact HJ.out, Z.hide (HX.out.trans (((K.Ext.refl _).drew).trans hx2))⟩
          case measure => first | (simp [intOf]; done) | (simp [intOf]; omega)
        · obtain ⟨rfl, rfl, rfl⟩ := Z.St.mk.inj h_
          rw [Z.stepText_2, ← ByteArray.append_assoc] at HR HRs
          have HD := HD h1 h2
          have hds := hds h1 h2
          generalize Z.dec t0 = D at *
          have o1 : ¬ (9223372036854775807 < S.size + 1) := by omega
          have o2 : ¬ (9223372036854775807 < S.size + 2) := by omega
          have o3 : ¬ (9223372036854775807 < S.size + 2 + D.size) := by omega
          have o4 : ¬ (9223372036854775807 < S.size + 1 + 1) := by omega
          have o5 : ¬ (9223372036854775807 < S.size + 1 + 1 + D.size) := by omega
          go_wp2_with fail
          refine K.call (by with_reducible rfl) (by with_reducible rfl) (HD _) ?_
          rintro e w2 ⟨rfl, f2⟩
          go_wp2
          go_roundw
          case rel => exact ⟨k + 1, _, by omega, by go_num, rfl, Z.hide HR.out.symm, by rw [← HRs.out]; exact HJ.out, Z.hide (HX.out.trans f2)⟩
          case measure => first | (simp [intOf]; done) | (simp [intOf]; omega)
    · obtain rfl : k = n := by omega
      have HF : Hid (Z.stepsText xs = S) := Z.hide (by unfold Z.stepsText; rw [← HN.out, HS.out])
      go_wp2
      go_ret
      exact ⟨by rw [HF.out]; rfl, HX.out⟩
set_option maxRecDepth 100000 in
theorem spec_StepsText (xs : List Z.St) {lo hi : Nat} {v : Value} (w : World) (hm : xs.length ≤ 1048576) (h : K.recs false K.StR w lo hi v xs) :
    Calls Tryz.prog 24 #[v] w fun e w' => e = .returned (.tuple #[.string (Z.StepsText xs).1, .int .i64 (Z.StepsText xs).2]) ∧ K.Ext w w' := by
  have h1 := h
  obtain ⟨o, cap, rfl, _⟩ := h1
  have HH := Z.hide h
  obtain ⟨c, hcd⟩ : ∃ c, c = Z.stCode xs := ⟨_, rfl⟩
  have HK : ∀ w' : World, K.Ext w w' → Calls Tryz.prog 78 #[.slice o xs.length cap] w' fun e w'' => e = .returned (.int .i64 c) ∧ K.Ext w' w'' := fun w' hx => by have h_ := l21Code_any xs w' hm (HH.out.ext hx); rwa [← hcd] at h_
  by_cases hc : c = 0
  · subst hc
    have HE : Hid (Z.StepsText xs = (Z.stepsText xs, 0)) := Z.hide (by unfold Z.StepsText; rw [if_pos hcd.symm])
    have HV := Z.hide (Z.code_valid hcd.symm)
    have HC : ∀ w' : World, K.Ext w w' → Calls Tryz.prog 79 #[.slice o xs.length cap] w' fun e w'' => e = .returned (.string (Z.stepsText xs)) ∧ K.Ext w' w'' := fun w' hx => l21Text_any xs w' HV.out hm (HH.out.ext hx)
    clear hcd h
    go_enter Tryz.func24, Tryz.ntmps24
    go_wp2_with fail
    refine K.call (by with_reducible rfl) (by with_reducible rfl) (HK _ (K.Ext.refl _)) ?_
    rintro e w1 ⟨rfl, f1⟩
    go_wp2_with fail
    refine K.call (by with_reducible rfl) (by with_reducible rfl) (HC _ f1) ?_
    rintro e w2 ⟨rfl, f2⟩
    go_wp2
    go_ret2
    exact ⟨by rw [HE.out]; rfl, f1.trans f2⟩
  · have HE : Hid (Z.StepsText xs = (⟨#[]⟩, c)) := Z.hide (by unfold Z.StepsText; rw [← hcd, if_neg hc])
    have hc' : (c == 0) = false := by simpa using hc
    clear hcd
    go_enter Tryz.func24, Tryz.ntmps24
    go_wp2_with fail
    refine K.call (by with_reducible rfl) (by with_reducible rfl) (HK _ (K.Ext.refl _)) ?_
    rintro e w1 ⟨rfl, f1⟩
    go_wp2
    go_ret2
    exact ⟨by rw [HE.out]; rfl, f1⟩
end Go.Proofs.YtmgocfdhngeeiaaGreatDoor
end
section
namespace Go.Z
theorem StepsText_size (l : List St) : (StepsText l).1.size ≤ 1000 := by
  unfold StepsText
  split
  · rename_i h
    have := stJoin_len (code_valid h) l.length (Nat.le_refl _)
    have := code_len h
    show (stepsText l).size ≤ 1000
    unfold stepsText
    rw [str_size]; omega
  · show (0 : Nat) ≤ 1000; omega
end Go.Z
namespace Go.Proofs.YtmgocfdhngeeiaaGreatDoor
open Go.RowKit
set_option maxRecDepth 100000 in
set_option maxHeartbeats 12800000 in
theorem DrawStepsText_any {hi n : Nat} {v : Value} (w : World) (hn : n ≤ 4096) (hh : hi ≤ w.heap.size) (h : K.byts w hi v n) :
    Calls Tryz.prog 22 #[v] w fun e w' => (∃ (u : Value) (xs : List Z.St), e = .returned (u) ∧ (xs.length ≤ 13 ∧ ∀ s ∈ xs, 0 ≤ s.nm ∧ s.nm ≤ 255) ∧ K.recs false K.StR w' w.heap.size w'.heap.size u xs) ∧ K.Ext w w' := by
  have F0 : K.Ext w w := K.Ext.refl _
  go_enter Tryz.func22, Tryz.ntmps22
  go_wp2_with fail
  refine K.call (by with_reducible rfl) (by with_reducible rfl) (l01From_at (w.heap.size) _ (by simp) hn (by omega) (h.ext (K.bex F0))) ?_
  rintro e w1 ⟨⟨rfl, s1⟩, f1⟩
  have z1 := f1.size
  (try simp at z1)
  have F1 : K.Ext w w1 := K.Ext.trans (K.bex F0) f1
  have lg := s1.lt
  go_wp2_with fail
  refine K.call (by with_reducible rfl) (by with_reducible rfl) (l21Draw_any w.heap.size _ (K.bsr s1)) ?_
  rintro e w2 ⟨⟨u, xs, rfl, ⟨k3, k4⟩, hU⟩, s2, f2⟩
  have z2 := f2.size
  (try simp at z2)
  have F2 : K.Ext w w2 := K.Far.ext (K.bex F1) f2 (by omega)
  obtain ⟨oU, kU, rfl, _⟩ := id hU
  have IU_2 : K.recs false K.StR w2 (w1.heap.size) w2.heap.size (.slice oU xs.length kU) xs := K.recs.mono hU (by simp) (Nat.le_refl _)
  clear hU
  go_wp2_with fail
  refine bodyPost_ret (v := .slice oU xs.length kU) (by unfold results; rw [Tryz.results22]; go_simp) rfl ⟨⟨_, xs, rfl, ⟨k3, k4⟩, K.recs.mono (K.bre IU_2) (by omega) (by first | omega | (simp; done) | (simp; omega))⟩, (K.bex F2)⟩
set_option maxRecDepth 100000 in
set_option maxHeartbeats 12800000 in
theorem DrawUndoSteps_any {hi n : Nat} {v : Value} (w : World) (hn : n ≤ 4096) (hh : hi ≤ w.heap.size) (h : K.byts w hi v n) :
    Calls Tryz.prog 28 #[v] w fun e w' => (∃ (u : Value) (xs : List Z.St), e = .returned (u) ∧ (xs.length ≤ 13 ∧ ∀ s ∈ xs, 0 ≤ s.nm ∧ s.nm ≤ 255) ∧ K.recs false K.StR w' w.heap.size w'.heap.size u xs) ∧ K.Ext w w' := by
  have F0 : K.Ext w w := K.Ext.refl _
  go_enter Tryz.func28, Tryz.ntmps28
  go_wp2_with fail
  refine K.call (by with_reducible rfl) (by with_reducible rfl) (l01From_at (w.heap.size) _ (by simp) hn (by omega) (h.ext (K.bex F0))) ?_
  rintro e w1 ⟨⟨rfl, s1⟩, f1⟩
  have z1 := f1.size
  (try simp at z1)
  have F1 : K.Ext w w1 := K.Ext.trans (K.bex F0) f1
  have lg := s1.lt
  go_wp2_with fail
  refine K.call (by with_reducible rfl) (by with_reducible rfl) (l21Draw_any w.heap.size _ (K.bsr s1)) ?_
  rintro e w2 ⟨⟨u, xs, rfl, ⟨k3, k4⟩, hU⟩, s2, f2⟩
  have z2 := f2.size
  (try simp at z2)
  have F2 : K.Ext w w2 := K.Far.ext (K.bex F1) f2 (by omega)
  obtain ⟨oU, kU, rfl, _⟩ := id hU
  have IU_2 : K.recs false K.StR w2 (w1.heap.size) w2.heap.size (.slice oU xs.length kU) xs := K.recs.mono hU (by simp) (Nat.le_refl _)
  clear hU
  go_wp2_with fail
  refine bodyPost_ret (v := .slice oU xs.length kU) (by unfold results; rw [Tryz.results28]; go_simp) rfl ⟨⟨_, xs, rfl, ⟨k3, k4⟩, K.recs.mono (K.bre IU_2) (by omega) (by first | omega | (simp; done) | (simp; omega))⟩, (K.bex F2)⟩
set_option maxRecDepth 100000 in
set_option maxHeartbeats 12800000 in
theorem DrawReadSteps_any {hi n : Nat} {v : Value} (w : World) (hn : n ≤ 4096) (hh : hi ≤ w.heap.size) (h : K.byts w hi v n) :
    Calls Tryz.prog 25 #[v] w fun e w' => (∃ (s : ByteArray), e = .returned (.string s) ∧ s.size ≤ 5000) ∧ K.Ext w w' := by
  have F0 : K.Ext w w := K.Ext.refl _
  go_enter Tryz.func25, Tryz.ntmps25
  go_wp2_with fail
  refine K.call (by with_reducible rfl) (by with_reducible rfl) (l01From_at (w.heap.size) _ (by simp) hn (by omega) (h.ext (K.bex F0))) ?_
  rintro e w1 ⟨⟨rfl, s1⟩, f1⟩
  have z1 := f1.size
  (try simp at z1)
  have F1 : K.Ext w w1 := K.Ext.trans (K.bex F0) f1
  have lg := s1.lt
  go_wp2_with fail
  refine K.call (by with_reducible rfl) (by with_reducible rfl) (l21Draw_any w.heap.size _ (K.bsr s1)) ?_
  rintro e w2 ⟨⟨u, xs, rfl, ⟨k3, k4⟩, hU⟩, s2, f2⟩
  have z2 := f2.size
  (try simp at z2)
  have F2 : K.Ext w w2 := K.Far.ext (K.bex F1) f2 (by omega)
  obtain ⟨oU, kU, rfl, _⟩ := id hU
  have IU_2 : K.recs false K.StR w2 (w1.heap.size) w2.heap.size (.slice oU xs.length kU) xs := K.recs.mono hU (by simp) (Nat.le_refl _)
  clear hU
  go_wp2_with fail
  refine K.call (by with_reducible rfl) (by with_reducible rfl) (spec_StepsText xs _ (by omega) (K.bre IU_2)) ?_
  rintro e w3 ⟨rfl, x3⟩
  have f3 : K.Far (w.heap.size) (w.heap.size + 1) _ w3 := K.Far.of_ext x3
  have s3 := K.Src.ext (K.bsr s2) x3
  have z3 := f3.size
  (try simp at z3)
  have F3 : K.Ext w w3 := K.Far.ext (K.bex F2) f3 (by omega)
  have IU_3 := K.recs.far (by decide) (K.bre IU_2) f3 (by first | exact .inl (by omega) | exact .inr (by omega))
  have HT := Z.StepsText_size xs
  generalize (Z.StepsText xs).1 = T at *
  go_wp2_with fail
  refine K.call (by with_reducible rfl) (by with_reducible rfl) (l01Next_any w.heap.size (3) _ (K.bsr s3)) ?_
  rintro e w4 ⟨⟨m, rfl, m0, m1, m2⟩, s4, f4⟩
  have z4 := f4.size
  (try simp at z4)
  have F4 : K.Ext w w4 := K.Far.ext (K.bex F3) f4 (by omega)
  by_cases m0_ : m = 0
  · subst m0_
    go_wp2_with fail
    refine K.call (by with_reducible rfl) (by with_reducible rfl) (l01Damage_any w.heap.size T _ (by omega) (K.bsr s4)) ?_
    rintro e w5 ⟨⟨u, rfl, hu⟩, s5, f5⟩
    have z5 := f5.size
    (try simp at z5)
    have F5 : K.Ext w w5 := K.Far.ext (K.bex F4) f5 (by omega)
    go_wp2_with fail
    refine bodyPost_ret (v := .string u) (by unfold results; rw [Tryz.results25]; go_simp) rfl ⟨⟨u, rfl, by omega⟩, (K.bex F5)⟩
  · skip
    go_wp2_with fail
    refine bodyPost_ret (v := .string T) (by unfold results; rw [Tryz.results25]; go_simp) rfl ⟨⟨T, rfl, by omega⟩, (K.bex F4)⟩
set_option maxRecDepth 100000 in
set_option maxHeartbeats 12800000 in
theorem DrawIsolateName_any {hi n : Nat} {v : Value} (w : World) (hn : n ≤ 4096) (hh : hi ≤ w.heap.size) (h : K.byts w hi v n) :
    Calls Tryz.prog 19 #[v] w fun e w' => (∃ (E : Z.Eqn) (p q : Value) (c : Int), e = .returned (.tuple #[.agg #[.int .i64 E.L.dg, .int .i64 E.L.tn, .string E.L.nm, p, .int .i64 E.R.dg, .int .i64 E.R.tn, .string E.R.nm, q], .int .u8 c]) ∧ (E.L.nm.size ≤ 7 ∧ E.L.pw.length ≤ 6) ∧ (E.R.nm.size ≤ 7 ∧ E.R.pw.length ≤ 6) ∧ K.ints w' w.heap.size w'.heap.size p E.L.pw ∧ K.ints w' w.heap.size w'.heap.size q E.R.pw ∧ 0 ≤ c ∧ c ≤ 255) ∧ K.Ext w w' := by
  have F0 : K.Ext w w := K.Ext.refl _
  go_enter Tryz.func19, Tryz.ntmps19
  go_wp2_with fail
  refine K.call (by with_reducible rfl) (by with_reducible rfl) (l01From_at (w.heap.size + 1) _ (by simp) hn (by omega) (h.ext (K.bex F0))) ?_
  rintro e w1 ⟨⟨rfl, s1⟩, f1⟩
  have z1 := f1.size
  (try simp at z1)
  have F1 : K.Ext w w1 := K.Ext.trans (K.bex F0) f1
  have c1_0_0 : w1.cell? ⟨w.heap.size, 0, none⟩ = some (.int .i64 0) := f1.cell_of (by go_simp)
  have d1_0_0 : w1.frozen? ⟨w.heap.size, 0, none⟩ = false := f1.thaw_of (by go_simp) (by go_simp)
  have c1_0_1 : w1.cell? ⟨w.heap.size, 1, none⟩ = some (.int .i64 0) := f1.cell_of (by go_simp)
  have d1_0_1 : w1.frozen? ⟨w.heap.size, 1, none⟩ = false := f1.thaw_of (by go_simp) (by go_simp)
  have c1_0_2 : w1.cell? ⟨w.heap.size, 2, none⟩ = some (.string ⟨#[]⟩) := f1.cell_of (by go_simp)
  have d1_0_2 : w1.frozen? ⟨w.heap.size, 2, none⟩ = false := f1.thaw_of (by go_simp) (by go_simp)
  have c1_0_3 : w1.cell? ⟨w.heap.size, 3, none⟩ = some (.slice none 0 0) := f1.cell_of (by go_simp)
  have d1_0_3 : w1.frozen? ⟨w.heap.size, 3, none⟩ = false := f1.thaw_of (by go_simp) (by go_simp)
  have c1_0_4 : w1.cell? ⟨w.heap.size, 4, none⟩ = some (.int .i64 0) := f1.cell_of (by go_simp)
  have d1_0_4 : w1.frozen? ⟨w.heap.size, 4, none⟩ = false := f1.thaw_of (by go_simp) (by go_simp)
  have c1_0_5 : w1.cell? ⟨w.heap.size, 5, none⟩ = some (.int .i64 0) := f1.cell_of (by go_simp)
  have d1_0_5 : w1.frozen? ⟨w.heap.size, 5, none⟩ = false := f1.thaw_of (by go_simp) (by go_simp)
  have c1_0_6 : w1.cell? ⟨w.heap.size, 6, none⟩ = some (.string ⟨#[]⟩) := f1.cell_of (by go_simp)
  have d1_0_6 : w1.frozen? ⟨w.heap.size, 6, none⟩ = false := f1.thaw_of (by go_simp) (by go_simp)
  have c1_0_7 : w1.cell? ⟨w.heap.size, 7, none⟩ = some (.slice none 0 0) := f1.cell_of (by go_simp)
  have d1_0_7 : w1.frozen? ⟨w.heap.size, 7, none⟩ = false := f1.thaw_of (by go_simp) (by go_simp)
  have y1_0 : w.heap.size < w1.heap.size := World.block_lt_of_cell? w1 _ c1_0_0
  have lg := s1.lt
  go_wp2_with fail
  refine K.call (by with_reducible rfl) (by with_reducible rfl) (l20Draw_any (w.heap.size + 1) _ (K.bsr s1)) ?_
  rintro e w2 ⟨⟨E, pE, qE, rfl, ⟨hnE, hmE⟩, ⟨jnE, jmE⟩, hiE, jiE⟩, s2, f2⟩
  have z2 := f2.size
  (try simp at z2)
  have F2 : K.Ext w w2 := K.Far.ext (K.bex F1) f2 (by omega)
  obtain ⟨c2_0_0, c2_0_1, c2_0_2, c2_0_3, c2_0_4, c2_0_5, c2_0_6, c2_0_7, d2_0_0, d2_0_1, d2_0_2, d2_0_3, d2_0_4, d2_0_5, d2_0_6, d2_0_7, y2_0⟩ := f2.p8 c1_0_0 c1_0_1 c1_0_2 c1_0_3 c1_0_4 c1_0_5 c1_0_6 c1_0_7 d1_0_0 d1_0_1 d1_0_2 d1_0_3 d1_0_4 d1_0_5 d1_0_6 d1_0_7
  obtain ⟨oEL, kEL, rfl, _⟩ := id hiE
  obtain ⟨oER, kER, rfl, _⟩ := id jiE
  have IEL_2 : K.ints w2 (w1.heap.size) w2.heap.size (.slice oEL E.L.pw.length kEL) E.L.pw := hiE.mono (by simp) (Nat.le_refl _)
  have IER_2 : K.ints w2 (w1.heap.size) w2.heap.size (.slice oER E.R.pw.length kER) E.R.pw := jiE.mono (by simp) (Nat.le_refl _)
  clear hiE jiE
  by_cases hz : 0 < E.L.nm.size
  · have hz' : (0 : Int) < (E.L.nm.size : Int) := by omega
    go_wp2_with fail
    refine K.call (by with_reducible rfl) (by with_reducible rfl) (l01Next_any (w.heap.size + 1) (3) _ (K.bsr s2)) ?_
    rintro e w3 ⟨⟨m, rfl, m0, m1, m2⟩, s3, f3⟩
    have z3 := f3.size
    (try simp at z3)
    have F3 : K.Ext w w3 := K.Far.ext (K.bex F2) f3 (by omega)
    have u3_0_1 : w.heap.size < w2.heap.size + 1 := (by omega)
    obtain ⟨c3_0_0, c3_0_1, c3_0_2, c3_0_3, c3_0_4, c3_0_5, c3_0_6, c3_0_7, d3_0_0, d3_0_1, d3_0_2, d3_0_3, d3_0_4, d3_0_5, d3_0_6, d3_0_7, y3_0⟩ := f3.p8 c2_0_0 c2_0_1 c2_0_2 c2_0_3 c2_0_4 c2_0_5 c2_0_6 c2_0_7 d2_0_0 d2_0_1 d2_0_2 d2_0_3 d2_0_4 d2_0_5 d2_0_6 d2_0_7
    have c3_1_0 : w3.cell? ⟨w2.heap.size, 0, none⟩ = some (.int .i64 E.L.dg) := f3.cell_of (by go_simp) (by (try dsimp only); omega)
    have d3_1_0 : w3.frozen? ⟨w2.heap.size, 0, none⟩ = false := f3.thaw_of (by go_simp) (by go_simp) (by (try dsimp only); omega)
    have c3_1_1 : w3.cell? ⟨w2.heap.size, 1, none⟩ = some (.int .i64 E.L.tn) := f3.cell_of (by go_simp) (by (try dsimp only); omega)
    have d3_1_1 : w3.frozen? ⟨w2.heap.size, 1, none⟩ = false := f3.thaw_of (by go_simp) (by go_simp) (by (try dsimp only); omega)
    have c3_1_2 : w3.cell? ⟨w2.heap.size, 2, none⟩ = some (.string E.L.nm) := f3.cell_of (by go_simp) (by (try dsimp only); omega)
    have d3_1_2 : w3.frozen? ⟨w2.heap.size, 2, none⟩ = false := f3.thaw_of (by go_simp) (by go_simp) (by (try dsimp only); omega)
    have c3_1_3 : w3.cell? ⟨w2.heap.size, 3, none⟩ = some (.slice oEL E.L.pw.length kEL) := f3.cell_of (by go_simp) (by (try dsimp only); omega)
    have d3_1_3 : w3.frozen? ⟨w2.heap.size, 3, none⟩ = false := f3.thaw_of (by go_simp) (by go_simp) (by (try dsimp only); omega)
    have c3_1_4 : w3.cell? ⟨w2.heap.size, 4, none⟩ = some (.int .i64 E.R.dg) := f3.cell_of (by go_simp) (by (try dsimp only); omega)
    have d3_1_4 : w3.frozen? ⟨w2.heap.size, 4, none⟩ = false := f3.thaw_of (by go_simp) (by go_simp) (by (try dsimp only); omega)
    have c3_1_5 : w3.cell? ⟨w2.heap.size, 5, none⟩ = some (.int .i64 E.R.tn) := f3.cell_of (by go_simp) (by (try dsimp only); omega)
    have d3_1_5 : w3.frozen? ⟨w2.heap.size, 5, none⟩ = false := f3.thaw_of (by go_simp) (by go_simp) (by (try dsimp only); omega)
    have c3_1_6 : w3.cell? ⟨w2.heap.size, 6, none⟩ = some (.string E.R.nm) := f3.cell_of (by go_simp) (by (try dsimp only); omega)
    have d3_1_6 : w3.frozen? ⟨w2.heap.size, 6, none⟩ = false := f3.thaw_of (by go_simp) (by go_simp) (by (try dsimp only); omega)
    have c3_1_7 : w3.cell? ⟨w2.heap.size, 7, none⟩ = some (.slice oER E.R.pw.length kER) := f3.cell_of (by go_simp) (by (try dsimp only); omega)
    have d3_1_7 : w3.frozen? ⟨w2.heap.size, 7, none⟩ = false := f3.thaw_of (by go_simp) (by go_simp) (by (try dsimp only); omega)
    have y3_1 : w2.heap.size < w3.heap.size := World.block_lt_of_cell? w3 _ c3_1_0
    have IEL_3 := K.ints.far (K.bin IEL_2) f3 (by first | exact .inl (by omega) | exact .inr (by omega))
    have IER_3 := K.ints.far (K.bin IER_2) f3 (by first | exact .inl (by omega) | exact .inr (by omega))
    by_cases m0_ : 0 < m
    · skip
      go_wp2_with fail
      have ne0_1 : ¬ (w.heap.size = w2.heap.size) := (by omega)
      have nf0_1 : ¬ (w2.heap.size = w.heap.size) := (by omega)
      go_region_held3 (fun w' => w'.cell? ⟨w2.heap.size, 0, none⟩ = some (.int .i64 E.L.dg) ∧ w'.cell? ⟨w2.heap.size, 1, none⟩ = some (.int .i64 E.L.tn) ∧ w'.cell? ⟨w2.heap.size, 2, none⟩ = some (.string E.L.nm) ∧ w'.cell? ⟨w2.heap.size, 3, none⟩ = some (.slice oEL E.L.pw.length kEL) ∧ w'.cell? ⟨w2.heap.size, 4, none⟩ = some (.int .i64 E.R.dg) ∧ w'.cell? ⟨w2.heap.size, 5, none⟩ = some (.int .i64 E.R.tn) ∧ w'.cell? ⟨w2.heap.size, 6, none⟩ = some (.string E.R.nm) ∧ w'.cell? ⟨w2.heap.size, 7, none⟩ = some (.slice oER E.R.pw.length kER)) ((repeat' apply And.intro) <;> go_simp) ((go_at_call 41; refine K.call (by with_reducible rfl) (by with_reducible rfl) (l01Next_any (w.heap.size + 1) ((E.L.nm.size : Int)) _ (K.bsr s3)) ?_; rintro e w4 ⟨⟨r, rfl, r0, r1, r2⟩, s4, f4⟩; have z4 := f4.size; (try simp at z4); have F4 : K.Ext w w4 := K.Far.ext (K.bex F3) f4 (by omega); obtain ⟨c4_0_0, c4_0_1, c4_0_2, c4_0_3, c4_0_4, c4_0_5, c4_0_6, c4_0_7, d4_0_0, d4_0_1, d4_0_2, d4_0_3, d4_0_4, d4_0_5, d4_0_6, d4_0_7, y4_0⟩ := f4.p8 c3_0_0 c3_0_1 c3_0_2 c3_0_3 c3_0_4 c3_0_5 c3_0_6 c3_0_7 d3_0_0 d3_0_1 d3_0_2 d3_0_3 d3_0_4 d3_0_5 d3_0_6 d3_0_7; obtain ⟨c4_1_0, c4_1_1, c4_1_2, c4_1_3, c4_1_4, c4_1_5, c4_1_6, c4_1_7, d4_1_0, d4_1_1, d4_1_2, d4_1_3, d4_1_4, d4_1_5, d4_1_6, d4_1_7, y4_1⟩ := f4.p8 c3_1_0 c3_1_1 c3_1_2 c3_1_3 c3_1_4 c3_1_5 c3_1_6 c3_1_7 d3_1_0 d3_1_1 d3_1_2 d3_1_3 d3_1_4 d3_1_5 d3_1_6 d3_1_7; have IEL_4 := K.ints.far (K.bin IEL_3) f4 (by first | exact .inl (by omega) | exact .inr (by omega)); have IER_4 := K.ints.far (K.bin IER_3) f4 (by first | exact .inl (by omega) | exact .inr (by omega)); obtain ⟨i, rfl⟩ : ∃ i : Nat, r = (i : Int) := ⟨r.toNat, by omega⟩; have hi : i < E.L.nm.size := (by omega); have i0 : (0 : Int) ≤ (i : Int) := (by omega); have i1 : (i : Int) < (E.L.nm.size : Int) := (by omega)))
      go_wp2_with fail
      all_goals refine bodyPost_ret (v := .tuple #[.agg #[.int .i64 E.L.dg, .int .i64 E.L.tn, .string E.L.nm, .slice oEL E.L.pw.length kEL, .int .i64 E.R.dg, .int .i64 E.R.tn, .string E.R.nm, .slice oER E.R.pw.length kER], .int .u8 ((E.L.nm[i]'hi).toNat : Int)]) (by unfold results; rw [Tryz.results19]; go_simp) rfl ⟨⟨E, _, _, ((E.L.nm[i]'hi).toNat : Int), rfl, ⟨hnE, hmE⟩, ⟨jnE, jmE⟩, K.ints.mono (K.bin IEL_4) (by omega) (by first | omega | (simp; done) | (simp; omega)), K.ints.mono (K.bin IER_4) (by omega) (by first | omega | (simp; done) | (simp; omega)), Int.natCast_nonneg _, by have := (E.L.nm[i]'hi).toNat_lt; omega⟩, (K.bex F4)⟩
    · skip
      go_wp2_with fail
      have ne0_1 : ¬ (w.heap.size = w2.heap.size) := (by omega)
      have nf0_1 : ¬ (w2.heap.size = w.heap.size) := (by omega)
      go_region_held3 (fun w' => w'.cell? ⟨w2.heap.size, 0, none⟩ = some (.int .i64 E.L.dg) ∧ w'.cell? ⟨w2.heap.size, 1, none⟩ = some (.int .i64 E.L.tn) ∧ w'.cell? ⟨w2.heap.size, 2, none⟩ = some (.string E.L.nm) ∧ w'.cell? ⟨w2.heap.size, 3, none⟩ = some (.slice oEL E.L.pw.length kEL) ∧ w'.cell? ⟨w2.heap.size, 4, none⟩ = some (.int .i64 E.R.dg) ∧ w'.cell? ⟨w2.heap.size, 5, none⟩ = some (.int .i64 E.R.tn) ∧ w'.cell? ⟨w2.heap.size, 6, none⟩ = some (.string E.R.nm) ∧ w'.cell? ⟨w2.heap.size, 7, none⟩ = some (.slice oER E.R.pw.length kER)) ((repeat' apply And.intro) <;> go_simp) ((go_at_call 65; refine K.call (by with_reducible rfl) (by with_reducible rfl) (l20DrawName_any (w.heap.size + 1) E _ hnE jnE (K.bsr s3)) ?_; rintro e w4 ⟨⟨c, rfl, c0, c1⟩, s4, f4⟩; have z4 := f4.size; (try simp at z4); have F4 : K.Ext w w4 := K.Far.ext (K.bex F3) f4 (by omega); obtain ⟨c4_0_0, c4_0_1, c4_0_2, c4_0_3, c4_0_4, c4_0_5, c4_0_6, c4_0_7, d4_0_0, d4_0_1, d4_0_2, d4_0_3, d4_0_4, d4_0_5, d4_0_6, d4_0_7, y4_0⟩ := f4.p8 c3_0_0 c3_0_1 c3_0_2 c3_0_3 c3_0_4 c3_0_5 c3_0_6 c3_0_7 d3_0_0 d3_0_1 d3_0_2 d3_0_3 d3_0_4 d3_0_5 d3_0_6 d3_0_7; obtain ⟨c4_1_0, c4_1_1, c4_1_2, c4_1_3, c4_1_4, c4_1_5, c4_1_6, c4_1_7, d4_1_0, d4_1_1, d4_1_2, d4_1_3, d4_1_4, d4_1_5, d4_1_6, d4_1_7, y4_1⟩ := f4.p8 c3_1_0 c3_1_1 c3_1_2 c3_1_3 c3_1_4 c3_1_5 c3_1_6 c3_1_7 d3_1_0 d3_1_1 d3_1_2 d3_1_3 d3_1_4 d3_1_5 d3_1_6 d3_1_7; have IEL_4 := K.ints.far (K.bin IEL_3) f4 (by first | exact .inl (by omega) | exact .inr (by omega)); have IER_4 := K.ints.far (K.bin IER_3) f4 (by first | exact .inl (by omega) | exact .inr (by omega))))
      go_wp2_with fail
      all_goals refine bodyPost_ret (v := .tuple #[.agg #[.int .i64 E.L.dg, .int .i64 E.L.tn, .string E.L.nm, .slice oEL E.L.pw.length kEL, .int .i64 E.R.dg, .int .i64 E.R.tn, .string E.R.nm, .slice oER E.R.pw.length kER], .int .u8 c]) (by unfold results; rw [Tryz.results19]; go_simp) rfl ⟨⟨E, _, _, c, rfl, ⟨hnE, hmE⟩, ⟨jnE, jmE⟩, K.ints.mono (K.bin IEL_4) (by omega) (by first | omega | (simp; done) | (simp; omega)), K.ints.mono (K.bin IER_4) (by omega) (by first | omega | (simp; done) | (simp; omega)), c0, c1⟩, (K.bex F4)⟩
  have hz' : ¬ ((0 : Int) < (E.L.nm.size : Int)) := by omega
  have uh_0_1 : w.heap.size < w2.heap.size + 1 := (by omega)
  go_wp2_with fail
  have ne0_1 : ¬ (w.heap.size = w2.heap.size) := (by omega)
  have nf0_1 : ¬ (w2.heap.size = w.heap.size) := (by omega)
  go_region_held3 (fun w' => w'.cell? ⟨w2.heap.size, 0, none⟩ = some (.int .i64 E.L.dg) ∧ w'.cell? ⟨w2.heap.size, 1, none⟩ = some (.int .i64 E.L.tn) ∧ w'.cell? ⟨w2.heap.size, 2, none⟩ = some (.string E.L.nm) ∧ w'.cell? ⟨w2.heap.size, 3, none⟩ = some (.slice oEL E.L.pw.length kEL) ∧ w'.cell? ⟨w2.heap.size, 4, none⟩ = some (.int .i64 E.R.dg) ∧ w'.cell? ⟨w2.heap.size, 5, none⟩ = some (.int .i64 E.R.tn) ∧ w'.cell? ⟨w2.heap.size, 6, none⟩ = some (.string E.R.nm) ∧ w'.cell? ⟨w2.heap.size, 7, none⟩ = some (.slice oER E.R.pw.length kER)) ((repeat' apply And.intro) <;> go_simp) ((go_at_call 65; refine K.call (by with_reducible rfl) (by with_reducible rfl) (l20DrawName_any (w.heap.size + 1) E _ hnE jnE (K.bsr s2)) ?_; rintro e w3 ⟨⟨c, rfl, c0, c1⟩, s3, f3⟩; have z3 := f3.size; (try simp at z3); have F3 : K.Ext w w3 := K.Far.ext (K.bex F2) f3 (by omega); have u3_0_1 : w.heap.size < w2.heap.size + 1 := (by omega); obtain ⟨c3_0_0, c3_0_1, c3_0_2, c3_0_3, c3_0_4, c3_0_5, c3_0_6, c3_0_7, d3_0_0, d3_0_1, d3_0_2, d3_0_3, d3_0_4, d3_0_5, d3_0_6, d3_0_7, y3_0⟩ := f3.p8 c2_0_0 c2_0_1 c2_0_2 c2_0_3 c2_0_4 c2_0_5 c2_0_6 c2_0_7 d2_0_0 d2_0_1 d2_0_2 d2_0_3 d2_0_4 d2_0_5 d2_0_6 d2_0_7; have c3_1_0 : w3.cell? ⟨w2.heap.size, 0, none⟩ = some (.int .i64 E.L.dg) := f3.cell_of (by go_simp) (by (try dsimp only); omega); have d3_1_0 : w3.frozen? ⟨w2.heap.size, 0, none⟩ = false := f3.thaw_of (by go_simp) (by go_simp) (by (try dsimp only); omega); have c3_1_1 : w3.cell? ⟨w2.heap.size, 1, none⟩ = some (.int .i64 E.L.tn) := f3.cell_of (by go_simp) (by (try dsimp only); omega); have d3_1_1 : w3.frozen? ⟨w2.heap.size, 1, none⟩ = false := f3.thaw_of (by go_simp) (by go_simp) (by (try dsimp only); omega); have c3_1_2 : w3.cell? ⟨w2.heap.size, 2, none⟩ = some (.string E.L.nm) := f3.cell_of (by go_simp) (by (try dsimp only); omega); have d3_1_2 : w3.frozen? ⟨w2.heap.size, 2, none⟩ = false := f3.thaw_of (by go_simp) (by go_simp) (by (try dsimp only); omega); have c3_1_3 : w3.cell? ⟨w2.heap.size, 3, none⟩ = some (.slice oEL E.L.pw.length kEL) := f3.cell_of (by go_simp) (by (try dsimp only); omega); have d3_1_3 : w3.frozen? ⟨w2.heap.size, 3, none⟩ = false := f3.thaw_of (by go_simp) (by go_simp) (by (try dsimp only); omega); have c3_1_4 : w3.cell? ⟨w2.heap.size, 4, none⟩ = some (.int .i64 E.R.dg) := f3.cell_of (by go_simp) (by (try dsimp only); omega); have d3_1_4 : w3.frozen? ⟨w2.heap.size, 4, none⟩ = false := f3.thaw_of (by go_simp) (by go_simp) (by (try dsimp only); omega); have c3_1_5 : w3.cell? ⟨w2.heap.size, 5, none⟩ = some (.int .i64 E.R.tn) := f3.cell_of (by go_simp) (by (try dsimp only); omega); have d3_1_5 : w3.frozen? ⟨w2.heap.size, 5, none⟩ = false := f3.thaw_of (by go_simp) (by go_simp) (by (try dsimp only); omega); have c3_1_6 : w3.cell? ⟨w2.heap.size, 6, none⟩ = some (.string E.R.nm) := f3.cell_of (by go_simp) (by (try dsimp only); omega); have d3_1_6 : w3.frozen? ⟨w2.heap.size, 6, none⟩ = false := f3.thaw_of (by go_simp) (by go_simp) (by (try dsimp only); omega); have c3_1_7 : w3.cell? ⟨w2.heap.size, 7, none⟩ = some (.slice oER E.R.pw.length kER) := f3.cell_of (by go_simp) (by (try dsimp only); omega); have d3_1_7 : w3.frozen? ⟨w2.heap.size, 7, none⟩ = false := f3.thaw_of (by go_simp) (by go_simp) (by (try dsimp only); omega); have y3_1 : w2.heap.size < w3.heap.size := World.block_lt_of_cell? w3 _ c3_1_0; have IEL_3 := K.ints.far (K.bin IEL_2) f3 (by first | exact .inl (by omega) | exact .inr (by omega)); have IER_3 := K.ints.far (K.bin IER_2) f3 (by first | exact .inl (by omega) | exact .inr (by omega))))
  go_wp2_with fail
  all_goals refine bodyPost_ret (v := .tuple #[.agg #[.int .i64 E.L.dg, .int .i64 E.L.tn, .string E.L.nm, .slice oEL E.L.pw.length kEL, .int .i64 E.R.dg, .int .i64 E.R.tn, .string E.R.nm, .slice oER E.R.pw.length kER], .int .u8 c]) (by unfold results; rw [Tryz.results19]; go_simp) rfl ⟨⟨E, _, _, c, rfl, ⟨hnE, hmE⟩, ⟨jnE, jmE⟩, K.ints.mono (K.bin IEL_3) (by omega) (by first | omega | (simp; done) | (simp; omega)), K.ints.mono (K.bin IER_3) (by omega) (by first | omega | (simp; done) | (simp; omega)), c0, c1⟩, (K.bex F3)⟩
end Go.Proofs.YtmgocfdhngeeiaaGreatDoor
end
section
namespace Go.Z
/-- what both readings of steps say -/
structure SsR (s : ByteArray) (l : List St) (ok : Bool) : Prop where
  sound : ok = true → stCode l = 0 ∧ stepsText l = s
  zero : ok = false → l = []
  whole : ∀ m, stCode m = 0 → stepsText m = s → l = m ∧ ok = true
theorem SsR.same {s : ByteArray} {F G : List St} {a b : Bool} (h : SsR s F a) (k : SsR s G b) : F = G ∧ a = b := by
  cases a <;> cases b
  · exact ⟨by rw [h.zero rfl, k.zero rfl], rfl⟩
  · obtain ⟨k1, k2⟩ := k.sound rfl
    have := (h.whole G k1 k2).2
    cases this
  · obtain ⟨k1, k2⟩ := h.sound rfl
    have := (k.whole F k1 k2).2
    cases this
  · obtain ⟨k1, k2⟩ := k.sound rfl
    exact ⟨(h.whole G k1 k2).1, rfl⟩
theorem stepText_ne (s : St) : stepText s ≠ [] := by
  unfold stepText
  split
  · simp
  · split <;> simp
theorem stTexts_all (l : List St) : stTexts l l.length = l.map stepText := by unfold stTexts; rw [List.take_length]
theorem step_no32 {s : St} (h : isStep s = true) : (32 : UInt8) ∉ stepText s := by
  obtain ⟨d, m, t⟩ := s
  unfold isStep at h
  unfold stepText
  dsimp only at h ⊢
  split at h
  · rename_i h0; rw [if_pos h0]; decide
  · rename_i h0
    rw [if_neg h0]
    split at h
    · rename_i h1
      rw [if_pos h1]
      intro hm
      rcases List.mem_cons.1 hm with hm | hm
      · exact absurd hm (by decide)
      · rcases List.mem_cons.1 hm with hm | hm
        · simp at h
          have e := congrArg UInt8.toNat hm
          simp at e
          omega
        · exact itoa_no t (by decide) (by decide) hm
    · rename_i h1
      rw [if_neg h1]
      intro hm
      rcases List.mem_cons.1 hm with hm | hm
      · exact absurd hm (by decide)
      · exact itoa_no t (by decide) (by decide) hm
theorem ss_split {s : ByteArray} {m : List St} (h : stCode m = 0) (ht : stepsText m = s) (hs : s ≠ ⟨#[]⟩) : splitC 32 s.data.toList = m.map stepText := by
  unfold stepsText at ht
  rw [stTexts_all] at ht
  have hm : m.map stepText ≠ [] := fun e => hs (by rw [← ht, e]; rfl)
  rw [← ht, str_bytes, splitC_join hm fun p hp => ?_]
  obtain ⟨x, hx, rfl⟩ := List.mem_map.1 hp
  exact step_no32 (code_valid h x hx)
theorem SsR.good {s : ByteArray} {F : List St} (h1 : stCode F = 0) (h2 : stepsText F = s) (h : ∀ G, stCode G = 0 → stepsText G = s → F = G) : SsR s F true :=
  ⟨fun _ => ⟨h1, h2⟩, fun h => (by cases h), fun G a b => ⟨h G a b, rfl⟩⟩
theorem SsR.bad {s : ByteArray} (h : ∀ G, stCode G = 0 → stepsText G ≠ s) : SsR s [] false :=
  ⟨fun h => (by cases h), fun _ => rfl, fun G a b => absurd b (h G a)⟩
/-- a piece, as the program reads it -/
def rdSt : List UInt8 → St
  | [] => ⟨0, 0, 0⟩
  | c :: t => if c = 120 ∧ 1 < t.length then ⟨1, ((t.getD 0 0).toNat : Int), (number (str (t.drop 1))).1⟩ else if c = 114 then ⟨2, 0, (number (str t)).1⟩ else ⟨0, 0, 0⟩
/-- a piece, as the reference reads it -/
def rdStS : List UInt8 → St
  | [] => ⟨-1, 0, 0⟩
  | c :: t => if c = 119 ∧ t = [] then ⟨0, 0, 0⟩ else if c = 120 ∧ 1 < t.length then ⟨1, ((t.getD 0 0).toNat : Int), (signed (t.drop 1)).1⟩ else if c = 114 ∧ 0 < t.length then ⟨2, 0, (signed t).1⟩ else ⟨-1, 0, 0⟩
theorem rdSt_cons (c : UInt8) (t : List UInt8) : rdSt (c :: t) = if c = 120 ∧ 1 < t.length then ⟨1, ((t.getD 0 0).toNat : Int), (number (str (t.drop 1))).1⟩ else if c = 114 then ⟨2, 0, (number (str t)).1⟩ else ⟨0, 0, 0⟩ := rfl
theorem rdStS_cons (c : UInt8) (t : List UInt8) : rdStS (c :: t) = if c = 119 ∧ t = [] then ⟨0, 0, 0⟩ else if c = 120 ∧ 1 < t.length then ⟨1, ((t.getD 0 0).toNat : Int), (signed (t.drop 1)).1⟩ else if c = 114 ∧ 0 < t.length then ⟨2, 0, (signed t).1⟩ else ⟨-1, 0, 0⟩ := rfl
theorem byte_of {m : Int} (h : 0 ≤ m) (h' : m ≤ 255) : ((UInt8.ofNat m.toNat).toNat : Int) = m := by
  simp; omega
theorem step_kinds4 {s : St} (h : isStep s = true) : s = ⟨0, 0, 0⟩ ∨ (∃ m t, s = ⟨1, m, t⟩ ∧ 97 ≤ m ∧ m ≤ 122 ∧ -6 ≤ t ∧ t ≤ 6) ∨ (∃ t, s = ⟨2, 0, t⟩ ∧ -6 ≤ t ∧ t ≤ 6) := by
  obtain ⟨d, m, t⟩ := s
  unfold isStep at h
  dsimp only at h
  split at h
  · rename_i h0; left; simp at h; rw [h0, h.1, h.2]
  · split at h
    · rename_i h1; right; left; simp at h; exact ⟨m, t, by rw [h1], by omega, by omega, by omega, by omega⟩
    · split at h
      · rename_i h2; right; right; simp at h; exact ⟨t, by rw [h2, h.1.1], by omega, by omega⟩
      · simp at h
theorem rdSt_text {x : St} (h : isStep x = true) : rdSt (stepText x) = x := by
  rcases step_kinds4 h with rfl | ⟨m, t, rfl, b0, b1, h1, h2⟩ | ⟨t, rfl, h1, h2⟩
  · rfl
  · show rdSt (120 :: UInt8.ofNat m.toNat :: Lib.itoa t) = _
    have hne := List.length_pos_iff.2 (itoa_ne t)
    have hn : number (str (Lib.itoa t)) = (t, true) := number_dec (by omega) (by omega)
    rw [rdSt_cons]
    rw [if_pos ⟨rfl, by simp; omega⟩]
    simp only [List.getD_cons_zero, List.drop_succ_cons, List.drop_zero, hn, byte_of (m := m) (by omega) (by omega)]
  · show rdSt (114 :: Lib.itoa t) = _
    have hn : number (str (Lib.itoa t)) = (t, true) := number_dec (by omega) (by omega)
    rw [rdSt_cons]
    rw [if_neg (fun e => absurd e.1 (by decide)), if_pos rfl, hn]
theorem rdStS_text {x : St} (h : isStep x = true) : rdStS (stepText x) = x := by
  rcases step_kinds4 h with rfl | ⟨m, t, rfl, b0, b1, h1, h2⟩ | ⟨t, rfl, h1, h2⟩
  · rfl
  · show rdStS (120 :: UInt8.ofNat m.toNat :: Lib.itoa t) = _
    have hne := List.length_pos_iff.2 (itoa_ne t)
    rw [rdStS_cons]
    rw [if_neg (fun e => absurd e.1 (by decide)), if_pos ⟨rfl, by simp; omega⟩]
    simp only [List.getD_cons_zero, List.drop_succ_cons, List.drop_zero, signed_itoa (n := t) (by omega) (by omega), byte_of (m := m) (by omega) (by omega)]
  · show rdStS (114 :: Lib.itoa t) = _
    have hne := List.length_pos_iff.2 (itoa_ne t)
    rw [rdStS_cons]
    rw [if_neg (fun e => absurd e.1 (by decide)), if_neg (fun e => absurd e.1 (by decide)), if_pos ⟨rfl, hne⟩, signed_itoa (by omega) (by omega)]
/-- the program reads a piece well -/
def okSt (p : List UInt8) : Bool := isStep (rdSt p) && decide (str (stepText (rdSt p)) = str p)
theorem okSt_text {x : St} (h : isStep x = true) : okSt (stepText x) = true := by
  unfold okSt; rw [rdSt_text h, h]; simp
theorem okSt_is {p : List UInt8} (h : okSt p = true) : isStep (rdSt p) = true ∧ stepText (rdSt p) = p := by
  unfold okSt at h
  rw [Bool.and_eq_true, decide_eq_true_eq] at h
  exact ⟨h.1, str_inj h.2⟩
theorem ss_read {s : ByteArray} {ps : List (List UInt8)} (hp : ps = splitC 32 s.data.toList) (hs : s ≠ ⟨#[]⟩) {m : List St} (h : stCode m = 0) (ht : stepsText m = s) : ps = m.map stepText ∧ ps.map rdSt = m ∧ ps.map rdStS = m ∧ (∀ p ∈ ps, okSt p = true) ∧ ps.length ≤ 12 := by
  have e := ss_split h ht hs
  rw [← hp] at e
  have hv := code_valid h
  have hl := code_len h
  subst e
  refine ⟨rfl, ?_, ?_, ?_, by simpa using hl⟩
  · rw [List.map_map]
    conv => rhs; rw [← List.map_id m]
    exact List.map_congr_left fun x hx => rdSt_text (hv x hx)
  · rw [List.map_map]
    conv => rhs; rw [← List.map_id m]
    exact List.map_congr_left fun x hx => rdStS_text (hv x hx)
  · intro p hp
    obtain ⟨x, hx, rfl⟩ := List.mem_map.1 hp
    exact okSt_text (hv x hx)
theorem ss_bad {s : ByteArray} {ps : List (List UInt8)} (hp : ps = splitC 32 s.data.toList) (hs : s ≠ ⟨#[]⟩) {k : Nat} {p : List UInt8} (hk : ps[k]? = some p) (hb : okSt p = false) : SsR s [] false := SsR.bad fun m h ht => by
  obtain ⟨_, _, _, h4, _⟩ := ss_read hp hs h ht
  have := h4 p (List.mem_of_getElem? hk)
  rw [hb] at this; cases this
theorem ss_long {s : ByteArray} {ps : List (List UInt8)} (hp : ps = splitC 32 s.data.toList) (hs : s ≠ ⟨#[]⟩) (hk : 12 < ps.length) : SsR s [] false := SsR.bad fun m h ht => by
  obtain ⟨_, _, _, _, h5⟩ := ss_read hp hs h ht
  omega
theorem ss_done {s : ByteArray} {ps : List (List UInt8)} (hp : ps = splitC 32 s.data.toList) (hs : s ≠ ⟨#[]⟩) (hk : ps.length ≤ 12) (ho : ∀ p ∈ ps, okSt p = true) : SsR s (ps.map rdSt) true := by
  have ha : allSt (ps.map rdSt) = true := by
    unfold allSt
    rw [List.all_eq_true]
    intro x hx
    obtain ⟨p, hp, rfl⟩ := List.mem_map.1 hx
    exact (okSt_is (ho p hp)).1
  refine SsR.good ?_ ?_ fun m h ht => (ss_read hp hs h ht).2.1
  · unfold stCode
    rw [ha, if_pos rfl, if_pos (by rw [List.length_map]; omega)]
  · unfold stepsText
    rw [stTexts_all, List.map_map]
    have e : ps.map (stepText ∘ rdSt) = ps := by
      conv => rhs; rw [← List.map_id ps]
      exact List.map_congr_left fun p hp => (okSt_is (ho p hp)).2
    rw [e, hp, join_splitC, str_list]
theorem ss_doneS {s : ByteArray} {ps : List (List UInt8)} (hp : ps = splitC 32 s.data.toList) (hs : s ≠ ⟨#[]⟩) (h1 : stCode (ps.map rdStS) = 0) (h2 : stepsText (ps.map rdStS) = s) : SsR s (ps.map rdStS) true :=
  SsR.good h1 h2 fun m h ht => (ss_read hp hs h ht).2.2.1
theorem ss_noneS {s : ByteArray} {ps : List (List UInt8)} (hp : ps = splitC 32 s.data.toList) (hs : s ≠ ⟨#[]⟩) (hb : stCode (ps.map rdStS) ≠ 0 ∨ stepsText (ps.map rdStS) ≠ s) : SsR s [] false := SsR.bad fun m h ht => by
  rw [(ss_read hp hs h ht).2.2.1] at hb
  rcases hb with hb | hb
  · exact hb h
  · exact hb ht
theorem ss_empty : SsR ⟨#[]⟩ [] true := SsR.good (by decide) rfl fun m h ht => by
  unfold stepsText at ht
  rw [stTexts_all] at ht
  rcases m with _ | ⟨x, l⟩
  · rfl
  · have e : joinB 32 ((x :: l).map stepText) = [] := str_inj (b := []) ht
    exact absurd e (joinB_ne (by simp) fun p hp => by
      obtain ⟨y, _, rfl⟩ := List.mem_map.1 hp
      exact stepText_ne y)
theorem map_take_snoc {α : Type} {ps : List (List UInt8)} {f : List UInt8 → α} {k : Nat} {p : List UInt8} (h : ps[k]? = some p) : (ps.take (k + 1)).map f = (ps.take k).map f ++ [f p] := by
  rw [take_snoc h, List.map_append, List.map_singleton]
theorem ok_take_snoc {ps : List (List UInt8)} {k : Nat} {p : List UInt8} (h : ps[k]? = some p) (ho : ∀ q ∈ ps.take k, okSt q = true) (hp : okSt p = true) : ∀ q ∈ ps.take (k + 1), okSt q = true := fun q hq => by
  rw [take_snoc h] at hq
  rcases List.mem_append.1 hq with hq | hq
  · exact ho q hq
  · obtain rfl := List.mem_singleton.1 hq; exact hp
end Go.Z
end
section
namespace Go.Z
theorem prefix_one (c b : UInt8) (t : List UInt8) : Lib.hasPrefix (c :: t) [b] = (b == c) := by
  show ((b == c) && List.isPrefixOf [] t) = _
  simp
end Go.Z
namespace Go.K
open Go.RowKit
/-- what may be done to one block: it is as it was, or as it shall be -/
def RS (b : Nat) (o0 o1 : Obj) : Rel := ⟨fun w w' => Far b (b + 1) w w' ∧ (w.heap[b]? = some o1 → w'.heap[b]? = some o1) ∧ (w.heap[b]? = some o0 → w'.heap[b]? = some o0 ∨ w'.heap[b]? = some o1),
  fun a => ⟨Far.refl _ _ _, fun h => h, fun h => .inl h⟩, fun _ _ _ h k => ⟨h.1.trans k.1, fun x => k.2.1 (h.2.1 x), fun x => (h.2.2 x).elim k.2.2 (fun y => .inr (k.2.1 y))⟩, fun _ _ h => ⟨Far.of_ext h, fun x => h.block x, fun x => .inl (h.block x)⟩, fun _ _ h => h.1.size, b + 1,
  fun a b' k o h hk ho => by rw [h.1.block k (Array.getElem?_eq_some_iff.1 ho).1 (.inr hk)]; exact ho⟩
theorem RS_keep {b : Nat} {o0 o1 : Obj} {w w' : World} (h : (RS b o0 o1).r w w') (h0 : w.heap[b]? = some o0) : w'.heap[b]? = some o0 ∨ w'.heap[b]? = some o1 := h.2.2 h0
theorem RS_new {b : Nat} {o0 o1 : Obj} {w w' : World} (hf : Far b (b + 1) w w') (h1 : w'.heap[b]? = some o1) : (RS b o0 o1).r w w' := ⟨hf, fun _ => h1, fun _ => .inr h1⟩
def SQ.so {b : Nat} {o0 o1 : Obj} : SQ (RS b o0 o1) := SQ.of' (fun _ w => w.heap[b]? = some o1) (fun _ _ _ h x => h.2.1 x)
section steps
variable {R : Rel} {P : Program} {ops : Array Oper} {W : World} {ks : List Nat} {vs : List (SQ R)} {T : Act → World → Prop} {k : Nat} {o : Oper} {rest : List Oper} {s : Nat → Option Value} {a : Act} {w : World}
theorem y_so {b : Nat} {o0 o1 : Obj} {vs : List (SQ (RS b o0 o1))} (hw : Region.wanted o (yielded ops a.tmps) = true) (hk : ks.getD k 0 = 2) (hvs : vs.getD k SQ.any = SQ.so)
    (hrun : ∀ w', (RS b o0 o1).r W w' → ∃ w'', (execOp a.eval o).run P w' = .ok .skip w'' ∧ Far b (b + 1) w' w'' ∧ w''.heap[b]? = some o1)
    (h : ∀ v w', (RS b o0 o1).r w w' → w'.heap[b]? = some o1 → WalkY P ops W ks vs T (k + 1) rest (upd s k (some v)) (a.put o.dst v) w') : WalkY P ops W ks vs T k (o :: rest) s a w :=
  ⟨K2.Walk.told hw hk (fun w' _ hx hp => by
      obtain ⟨w'', hr, hf, hb⟩ := hrun w' hx
      rw [hr]
      exact ⟨trivial, RS_new hf hb, by unfold qvals; rw [hvs]; exact hb, qApart vs (by rw [hvs]; rfl) _ _⟩)
    (fun v w' _ hx hv _ => (h v w' hx (by unfold qvals at hv; rw [hvs] at hv; exact hv)).out)⟩
theorem set3 {w : World} {b : Nat} {c0 c1 c2 d0 d1 d2 : Value} {T : TypeId} (h : w.heap[b]? = some (.cells #[c0, c1, c2] T)) :
    (((w.setCell ⟨b, 0, none⟩ d0).setCell ⟨b, 1, none⟩ d1).setCell ⟨b, 2, none⟩ d2).heap[b]? = some (.cells #[d0, d1, d2] T) := by
  have e0 := Joins.block_setCell (i := 0) h d0
  simp only [List.setIfInBounds_toArray, List.set] at e0
  have e1 := Joins.block_setCell (i := 1) e0 d1
  simp only [List.setIfInBounds_toArray, List.set] at e1
  have e2 := Joins.block_setCell (i := 2) e1 d2
  simp only [List.setIfInBounds_toArray, List.set] at e2
  exact e2
theorem far3 {w : World} {b : Nat} {d0 d1 d2 : Value} : Far b (b + 1) w (((w.setCell ⟨b, 0, none⟩ d0).setCell ⟨b, 1, none⟩ d1).setCell ⟨b, 2, none⟩ d2) :=
  (((Far.refl b (b + 1) w).setCell (p := ⟨b, 0, none⟩) (Nat.le_refl b) (Nat.lt_succ_self b) d0).setCell (p := ⟨b, 1, none⟩) (Nat.le_refl b) (Nat.lt_succ_self b) d1).setCell (p := ⟨b, 2, none⟩) (Nat.le_refl b) (Nat.lt_succ_self b) d2
theorem box3 {w : World} {b : Nat} {c0 c1 c2 : Value} {T : TypeId} (h : w.heap[b]? = some (.cells #[c0, c1, c2] T)) :
    (w.cell? ⟨b, 0, none⟩ = some c0 ∧ w.cell? ⟨b, 1, none⟩ = some c1 ∧ w.cell? ⟨b, 2, none⟩ = some c2) ∧ (w.frozen? ⟨b, 0, none⟩ = false ∧ w.frozen? ⟨b, 1, none⟩ = false ∧ w.frozen? ⟨b, 2, none⟩ = false) ∧ b < w.heap.size :=
  ⟨⟨cell_at h rfl, cell_at h rfl, cell_at h rfl⟩, ⟨thaw_at h, thaw_at h, thaw_at h⟩, (Array.getElem?_eq_some_iff.1 h).1⟩
end steps
end Go.K
namespace Go.Proofs.YtmgocfdhngeeiaaGreatDoor
open Go.RowKit
theorem prefix_any (s : ByteArray) (b : UInt8) (x : Bool) (w : World) (h : Lib.hasPrefix s.data.toList [b] = x) : Calls Tryz.prog 112 #[.string s, .string ⟨#[b]⟩] w fun e w' => e = .returned (.bool x) ∧ w = w' := by
  subst h; exact (Tryz.strings_HasPrefix s ⟨#[b]⟩ w).mono fun e w'' ⟨h1, h2⟩ => ⟨h1, h2.symm⟩
theorem isStep_any' (kd nm pw : Int) (b : Bool) (w : World) (hb : Z.isStep ⟨kd, nm, pw⟩ = b) : Calls Tryz.prog 113 #[.agg #[.int .i64 kd, .int .u8 nm, .int .i64 pw]] w fun e w' => e = .returned (.bool b) ∧ K.Ext w w' := by subst hb; exact isStep_any ⟨kd, nm, pw⟩ w
set_option maxRecDepth 100000 in
set_option maxHeartbeats 6400000 in
theorem readStep_none (s : ByteArray) (w : World) (hL : LV w) (h1 : Lib.hasPrefix s.data.toList [120] = false ∨ s.size ≤ 2) (h2 : Lib.hasPrefix s.data.toList [114] = false) :
    Calls Tryz.prog 80 #[.string s] w fun e w' => e = .returned (.tuple #[.agg #[.int .i64 0, .int .u8 0, .int .i64 0], .bool (Z.isStep ⟨0, 0, 0⟩ && decide (Z.str (Z.stepText ⟨0, 0, 0⟩) = s))]) ∧ K.Ext w w' := by
  obtain ⟨ok, hok⟩ : ∃ ok, ok = (Z.isStep ⟨0, 0, 0⟩ && decide (Z.str (Z.stepText ⟨0, 0, 0⟩) = s)) := ⟨_, rfl⟩
  have HOK := Z.hide hok
  rw [← hok]
  clear hok
  have HLV := Z.hide hL
  have HP2 := fun w' => prefix_any s 114 false w' h2
  obtain ⟨V, hV⟩ : ∃ V, V = (w.alloc (.cells #[.int .i64 0, .int .u8 0, .int .i64 0] 89)).alloc (.cells #[.int .i64 0, .int .u8 0, .int .i64 0] 89) := ⟨_, rfl⟩
  have HXV : Hid (K.Ext w V) := Z.hide (by rw [hV]; exact ((K.Ext.refl w).alloc _).alloc _)
  have HT : Hid (V.heap[w.heap.size + 1]? = some (.cells #[.int .i64 0, .int .u8 0, .int .i64 0] 89)) := Z.hide (by rw [hV]; exact K.block_new (by simp))
  have HR : Hid (V.heap[w.heap.size]? = some (.cells #[.int .i64 0, .int .u8 0, .int .i64 0] 89)) := Z.hide (by rw [hV]; exact ((K.Ext.refl _).alloc _).block (K.block_new rfl))
  have LT4 : Hid (w.heap.size + 1 < V.heap.size) := Z.hide (Array.getElem?_eq_some_iff.1 HT.out).1
  cases hp : Lib.hasPrefix s.data.toList [120]
  · have HP1 := fun w' => prefix_any s 120 false w' hp
    clear h1 h2 hp hL
    go_enter Tryz.func80, Tryz.ntmps80
    go_wp2_with fail
    refine K.call (by with_reducible rfl) (by with_reducible rfl) (HP1 _) ?_
    rintro e _ ⟨rfl, rfl⟩
    go_wp2_with fail
    refine K.call (by with_reducible rfl) (by with_reducible rfl) (HP2 _) ?_
    rintro e _ ⟨rfl, rfl⟩
    have hV' := hV.symm
    clear hV
    go_wp2_with fail
    cases hv : Z.isStep ⟨0, 0, 0⟩
    · have HV := Z.hide hv
      have HE : Hid (ok = false) := Z.hide (by rw [HOK.out, hv]; rfl)
      clear hv
      refine K.wp_region_y (R := K.RS w.heap.size (.cells #[.int .i64 0, .int .u8 0, .int .i64 0] 89) (.cells #[.int .i64 0, .int .u8 0, .int .i64 0] 89)) 10 [1, 1, 2, 0, 1, 2, 0, 0, 0, 2] [K.SQ.any, K.SQ.any, K.SQ.is (.bool false), K.SQ.any, K.SQ.any, K.SQ.any, K.SQ.any, K.SQ.any, K.SQ.any, K.SQ.so] (by kernel_rfl) (by kernel_rfl) ?_
      simp only [List.take_succ_cons, List.take_zero, List.drop_succ_cons, List.drop_zero]
      apply K.y_held
      · rfl
      · rfl
      · intro w' hx
        have hb := (hx.1.block (w.heap.size + 1) LT4.out (.inr (Nat.le_refl _))).trans HT.out
        have q0 : w'.cell? ⟨w.heap.size + 1, 0, none⟩ = some (.int .i64 0) := K.cell_at hb rfl
        have q1 : w'.cell? ⟨w.heap.size + 1, 1, none⟩ = some (.int .u8 0) := K.cell_at hb rfl
        have q2 : w'.cell? ⟨w.heap.size + 1, 2, none⟩ = some (.int .i64 0) := K.cell_at hb rfl
        go_simp; first | done | rfl | exact ⟨rfl, rfl⟩
      simp only [Act.put, List.setIfInBounds_toArray, List.set]
      apply K.y_held
      · rfl
      · rfl
      · intro w' hx
        have hb := (hx.1.block (w.heap.size + 1) LT4.out (.inr (Nat.le_refl _))).trans HT.out
        have q0 : w'.cell? ⟨w.heap.size + 1, 0, none⟩ = some (.int .i64 0) := K.cell_at hb rfl
        have q1 : w'.cell? ⟨w.heap.size + 1, 1, none⟩ = some (.int .u8 0) := K.cell_at hb rfl
        have q2 : w'.cell? ⟨w.heap.size + 1, 2, none⟩ = some (.int .i64 0) := K.cell_at hb rfl
        go_simp; first | done | rfl | exact ⟨rfl, rfl⟩
      simp only [Act.put, List.setIfInBounds_toArray, List.set]
      apply K.y_call_is
      · rfl
      · rfl
      · rfl
      · intro w'; go_simp; first | done | rfl | exact ⟨rfl, rfl⟩
      · intro w' hx hp
        exact (isStep_any' 0 0 0 false _ HV.out).mono fun e w'' ⟨he, hx'⟩ => ⟨he, (K.RS _ _ _).ext _ _ hx'⟩
      intro w_2 hx_2
      simp only [Act.put, List.setIfInBounds_toArray, List.set]
      apply K.y_pure
      · rfl
      · rfl
      · intro w'; go_simp; first | done | exact K.vint (IntWalk.i64_in _ (by omega)) | rfl | exact ⟨rfl, rfl⟩
      simp only [Act.put, List.setIfInBounds_toArray, List.set]
      refine K.y_skip (by rfl) ?_
      simp only [Act.put, List.setIfInBounds_toArray, List.set]
      refine K.y_skip (by rfl) ?_
      simp only [Act.put, List.setIfInBounds_toArray, List.set]
      refine K.y_skip (by rfl) ?_
      simp only [Act.put, List.setIfInBounds_toArray, List.set]
      refine K.y_skip (by rfl) ?_
      simp only [Act.put, List.setIfInBounds_toArray, List.set]
      apply K.y_pure
      · rfl
      · rfl
      · intro w'; go_simp; first | done | exact K.vint (IntWalk.i64_in _ (by omega)) | rfl | exact ⟨rfl, rfl⟩
      simp only [Act.put, List.setIfInBounds_toArray, List.set]
      apply K.y_so
      · rfl
      · rfl
      · rfl
      · intro w' hx
        have hk : ∃ c0 c1 c2, w'.heap[w.heap.size]? = some (.cells #[c0, c1, c2] 89) := by rcases K.RS_keep hx HR.out with hb | hb <;> exact ⟨_, _, _, hb⟩
        obtain ⟨c0, c1, c2, hk⟩ := hk
        obtain ⟨⟨q0, q1, q2⟩, ⟨t0, t1, t2⟩, _⟩ := K.box3 hk
        refine ⟨((w'.setCell ⟨w.heap.size, 0, none⟩ (.int .i64 0)).setCell ⟨w.heap.size, 1, none⟩ (.int .u8 0)).setCell ⟨w.heap.size, 2, none⟩ (.int .i64 0), ?_, K.far3, K.set3 hk⟩
        clear hk hx
        go_simp
        all_goals first | rfl | exact ⟨rfl, rfl⟩
      intro v9 w_9 hx_9 hg9
      simp only [Act.put, List.setIfInBounds_toArray, List.set]
      apply K.y_done
      intro w3 h3
      have hf3 := (hx_2.1.trans hx_9.1).trans h3.1
      have HX3 : K.Ext w w3 := K.Far.ext (HXV.out.drew) hf3 (Nat.le_refl _)
      have hb3 : w3.heap[w.heap.size]? = some (.cells #[.int .i64 0, .int .u8 0, .int .i64 0] 89) := h3.2.1 hg9
      have r0 : w3.cell? ⟨w.heap.size, 0, none⟩ = some (.int .i64 0) := K.cell_at hb3 rfl
      have r1 : w3.cell? ⟨w.heap.size, 1, none⟩ = some (.int .u8 0) := K.cell_at hb3 rfl
      have r2 : w3.cell? ⟨w.heap.size, 2, none⟩ = some (.int .i64 0) := K.cell_at hb3 rfl
      go_wp2_with fail
      refine NoPanic.normal ?_
      go_wp2
      refine bodyPost_ret (v := .tuple #[.agg #[.int .i64 0, .int .u8 0, .int .i64 0], .bool false]) (by unfold results; rw [Tryz.results80]; go_simp) rfl ⟨by rw [HE.out], ?_⟩
      exact HX3
    · have HV := Z.hide hv
      have HST := fun w' (hx : K.Ext w w') => stepText_any ⟨0, 0, 0⟩ w' hv (HLV.out.ext hx).t
      have HE : Hid (ok = decide (Z.str (Z.stepText ⟨0, 0, 0⟩) = s)) := Z.hide (by rw [HOK.out, hv, Bool.true_and])
      clear hv
      dsimp only at HST
      generalize Z.str (Z.stepText ⟨0, 0, 0⟩) = D at *
      have hbq := K.str_beq D s
      generalize decide (D = s) = q at *
      refine K.wp_region_y (R := K.RS w.heap.size (.cells #[.int .i64 0, .int .u8 0, .int .i64 0] 89) (.cells #[.int .i64 0, .int .u8 0, .int .i64 0] 89)) 10 [1, 1, 2, 0, 1, 2, 0, 0, 0, 2] [K.SQ.any, K.SQ.any, K.SQ.is (.bool true), K.SQ.any, K.SQ.any, K.SQ.is (.string D), K.SQ.any, K.SQ.any, K.SQ.any, K.SQ.so] (by kernel_rfl) (by kernel_rfl) ?_
      simp only [List.take_succ_cons, List.take_zero, List.drop_succ_cons, List.drop_zero]
      apply K.y_held
      · rfl
      · rfl
      · intro w' hx
        have hb := (hx.1.block (w.heap.size + 1) LT4.out (.inr (Nat.le_refl _))).trans HT.out
        have q0 : w'.cell? ⟨w.heap.size + 1, 0, none⟩ = some (.int .i64 0) := K.cell_at hb rfl
        have q1 : w'.cell? ⟨w.heap.size + 1, 1, none⟩ = some (.int .u8 0) := K.cell_at hb rfl
        have q2 : w'.cell? ⟨w.heap.size + 1, 2, none⟩ = some (.int .i64 0) := K.cell_at hb rfl
        go_simp; first | done | rfl | exact ⟨rfl, rfl⟩
      simp only [Act.put, List.setIfInBounds_toArray, List.set]
      apply K.y_held
      · rfl
      · rfl
      · intro w' hx
        have hb := (hx.1.block (w.heap.size + 1) LT4.out (.inr (Nat.le_refl _))).trans HT.out
        have q0 : w'.cell? ⟨w.heap.size + 1, 0, none⟩ = some (.int .i64 0) := K.cell_at hb rfl
        have q1 : w'.cell? ⟨w.heap.size + 1, 1, none⟩ = some (.int .u8 0) := K.cell_at hb rfl
        have q2 : w'.cell? ⟨w.heap.size + 1, 2, none⟩ = some (.int .i64 0) := K.cell_at hb rfl
        go_simp; first | done | rfl | exact ⟨rfl, rfl⟩
      simp only [Act.put, List.setIfInBounds_toArray, List.set]
      apply K.y_call_is
      · rfl
      · rfl
      · rfl
      · intro w'; go_simp; first | done | rfl | exact ⟨rfl, rfl⟩
      · intro w' hx hp
        exact (isStep_any' 0 0 0 true _ HV.out).mono fun e w'' ⟨he, hx'⟩ => ⟨he, (K.RS _ _ _).ext _ _ hx'⟩
      intro w_2 hx_2
      simp only [Act.put, List.setIfInBounds_toArray, List.set]
      apply K.y_pure
      · rfl
      · rfl
      · intro w'; go_simp; first | done | exact K.vint (IntWalk.i64_in _ (by omega)) | rfl | exact ⟨rfl, rfl⟩
      simp only [Act.put, List.setIfInBounds_toArray, List.set]
      apply K.y_held
      · rfl
      · rfl
      · intro w' hx
        have hb := (hx.1.block (w.heap.size + 1) LT4.out (.inr (Nat.le_refl _))).trans HT.out
        have q0 : w'.cell? ⟨w.heap.size + 1, 0, none⟩ = some (.int .i64 0) := K.cell_at hb rfl
        have q1 : w'.cell? ⟨w.heap.size + 1, 1, none⟩ = some (.int .u8 0) := K.cell_at hb rfl
        have q2 : w'.cell? ⟨w.heap.size + 1, 2, none⟩ = some (.int .i64 0) := K.cell_at hb rfl
        go_simp; first | done | rfl | exact ⟨rfl, rfl⟩
      simp only [Act.put, List.setIfInBounds_toArray, List.set]
      apply K.y_call_is
      · rfl
      · rfl
      · rfl
      · intro w'; go_simp; first | done | rfl | exact ⟨rfl, rfl⟩
      · intro w' hx hp
        exact (HST _ (K.Far.ext (HXV.out.drew) hx.1 (Nat.le_refl _))).mono fun e w'' ⟨he, hx'⟩ => ⟨he, (K.RS _ _ _).ext _ _ hx'⟩
      intro w_5 hx_5
      simp only [Act.put, List.setIfInBounds_toArray, List.set]
      apply K.y_pure
      · rfl
      · rfl
      · intro w'; go_simp; first | done | exact K.vint (IntWalk.i64_in _ (by omega)) | rfl | exact ⟨rfl, rfl⟩
      simp only [Act.put, List.setIfInBounds_toArray, List.set]
      apply K.y_pure
      · rfl
      · rfl
      · intro w'; go_simp; first | done | exact K.vint (IntWalk.i64_in _ (by omega)) | rfl | exact ⟨rfl, rfl⟩
      simp only [Act.put, List.setIfInBounds_toArray, List.set]
      apply K.y_pure
      · rfl
      · rfl
      · intro w'; go_simp; first | done | exact K.vint (IntWalk.i64_in _ (by omega)) | rfl | exact ⟨rfl, rfl⟩
      simp only [Act.put, List.setIfInBounds_toArray, List.set]
      apply K.y_so
      · rfl
      · rfl
      · rfl
      · intro w' hx
        have hk : ∃ c0 c1 c2, w'.heap[w.heap.size]? = some (.cells #[c0, c1, c2] 89) := by rcases K.RS_keep hx HR.out with hb | hb <;> exact ⟨_, _, _, hb⟩
        obtain ⟨c0, c1, c2, hk⟩ := hk
        obtain ⟨⟨q0, q1, q2⟩, ⟨t0, t1, t2⟩, _⟩ := K.box3 hk
        refine ⟨((w'.setCell ⟨w.heap.size, 0, none⟩ (.int .i64 0)).setCell ⟨w.heap.size, 1, none⟩ (.int .u8 0)).setCell ⟨w.heap.size, 2, none⟩ (.int .i64 0), ?_, K.far3, K.set3 hk⟩
        clear hk hx
        go_simp
        all_goals first | rfl | exact ⟨rfl, rfl⟩
      intro v9 w_9 hx_9 hg9
      simp only [Act.put, List.setIfInBounds_toArray, List.set]
      apply K.y_done
      intro w3 h3
      have hf3 := ((hx_2.1.trans hx_5.1).trans hx_9.1).trans h3.1
      have HX3 : K.Ext w w3 := K.Far.ext (HXV.out.drew) hf3 (Nat.le_refl _)
      have hb3 : w3.heap[w.heap.size]? = some (.cells #[.int .i64 0, .int .u8 0, .int .i64 0] 89) := h3.2.1 hg9
      have r0 : w3.cell? ⟨w.heap.size, 0, none⟩ = some (.int .i64 0) := K.cell_at hb3 rfl
      have r1 : w3.cell? ⟨w.heap.size, 1, none⟩ = some (.int .u8 0) := K.cell_at hb3 rfl
      have r2 : w3.cell? ⟨w.heap.size, 2, none⟩ = some (.int .i64 0) := K.cell_at hb3 rfl
      go_wp2_with fail
      refine NoPanic.normal ?_
      go_wp2
      refine bodyPost_ret (v := .tuple #[.agg #[.int .i64 0, .int .u8 0, .int .i64 0], .bool q]) (by unfold results; rw [Tryz.results80]; go_simp) rfl ⟨by rw [HE.out], ?_⟩
      exact HX3
  · have HP1 := fun w' => prefix_any s 120 true w' hp
    have hz : s.size ≤ 2 := by rcases h1 with h1 | h1; rw [hp] at h1; cases h1; exact h1
    have hz' : ¬ ((2 : Int) < (s.size : Int)) := by omega
    clear h1 h2 hp hL
    go_enter Tryz.func80, Tryz.ntmps80
    go_wp2_with fail
    refine K.call (by with_reducible rfl) (by with_reducible rfl) (HP1 _) ?_
    rintro e _ ⟨rfl, rfl⟩
    go_wp2_with fail
    refine K.call (by with_reducible rfl) (by with_reducible rfl) (HP2 _) ?_
    rintro e _ ⟨rfl, rfl⟩
    have hV' := hV.symm
    clear hV
    go_wp2_with fail
    cases hv : Z.isStep ⟨0, 0, 0⟩
    · have HV := Z.hide hv
      have HE : Hid (ok = false) := Z.hide (by rw [HOK.out, hv]; rfl)
      clear hv
      refine K.wp_region_y (R := K.RS w.heap.size (.cells #[.int .i64 0, .int .u8 0, .int .i64 0] 89) (.cells #[.int .i64 0, .int .u8 0, .int .i64 0] 89)) 10 [1, 1, 2, 0, 1, 2, 0, 0, 0, 2] [K.SQ.any, K.SQ.any, K.SQ.is (.bool false), K.SQ.any, K.SQ.any, K.SQ.any, K.SQ.any, K.SQ.any, K.SQ.any, K.SQ.so] (by kernel_rfl) (by kernel_rfl) ?_
      simp only [List.take_succ_cons, List.take_zero, List.drop_succ_cons, List.drop_zero]
      apply K.y_held
      · rfl
      · rfl
      · intro w' hx
        have hb := (hx.1.block (w.heap.size + 1) LT4.out (.inr (Nat.le_refl _))).trans HT.out
        have q0 : w'.cell? ⟨w.heap.size + 1, 0, none⟩ = some (.int .i64 0) := K.cell_at hb rfl
        have q1 : w'.cell? ⟨w.heap.size + 1, 1, none⟩ = some (.int .u8 0) := K.cell_at hb rfl
        have q2 : w'.cell? ⟨w.heap.size + 1, 2, none⟩ = some (.int .i64 0) := K.cell_at hb rfl
        go_simp; first | done | rfl | exact ⟨rfl, rfl⟩
      simp only [Act.put, List.setIfInBounds_toArray, List.set]
      apply K.y_held
      · rfl
      · rfl
      · intro w' hx
        have hb := (hx.1.block (w.heap.size + 1) LT4.out (.inr (Nat.le_refl _))).trans HT.out
        have q0 : w'.cell? ⟨w.heap.size + 1, 0, none⟩ = some (.int .i64 0) := K.cell_at hb rfl
        have q1 : w'.cell? ⟨w.heap.size + 1, 1, none⟩ = some (.int .u8 0) := K.cell_at hb rfl
        have q2 : w'.cell? ⟨w.heap.size + 1, 2, none⟩ = some (.int .i64 0) := K.cell_at hb rfl
        go_simp; first | done | rfl | exact ⟨rfl, rfl⟩
      simp only [Act.put, List.setIfInBounds_toArray, List.set]
      apply K.y_call_is
      · rfl
      · rfl
      · rfl
      · intro w'; go_simp; first | done | rfl | exact ⟨rfl, rfl⟩
      · intro w' hx hp
        exact (isStep_any' 0 0 0 false _ HV.out).mono fun e w'' ⟨he, hx'⟩ => ⟨he, (K.RS _ _ _).ext _ _ hx'⟩
      intro w_2 hx_2
      simp only [Act.put, List.setIfInBounds_toArray, List.set]
      apply K.y_pure
      · rfl
      · rfl
      · intro w'; go_simp; first | done | exact K.vint (IntWalk.i64_in _ (by omega)) | rfl | exact ⟨rfl, rfl⟩
      simp only [Act.put, List.setIfInBounds_toArray, List.set]
      refine K.y_skip (by rfl) ?_
      simp only [Act.put, List.setIfInBounds_toArray, List.set]
      refine K.y_skip (by rfl) ?_
      simp only [Act.put, List.setIfInBounds_toArray, List.set]
      refine K.y_skip (by rfl) ?_
      simp only [Act.put, List.setIfInBounds_toArray, List.set]
      refine K.y_skip (by rfl) ?_
      simp only [Act.put, List.setIfInBounds_toArray, List.set]
      apply K.y_pure
      · rfl
      · rfl
      · intro w'; go_simp; first | done | exact K.vint (IntWalk.i64_in _ (by omega)) | rfl | exact ⟨rfl, rfl⟩
      simp only [Act.put, List.setIfInBounds_toArray, List.set]
      apply K.y_so
      · rfl
      · rfl
      · rfl
      · intro w' hx
        have hk : ∃ c0 c1 c2, w'.heap[w.heap.size]? = some (.cells #[c0, c1, c2] 89) := by rcases K.RS_keep hx HR.out with hb | hb <;> exact ⟨_, _, _, hb⟩
        obtain ⟨c0, c1, c2, hk⟩ := hk
        obtain ⟨⟨q0, q1, q2⟩, ⟨t0, t1, t2⟩, _⟩ := K.box3 hk
        refine ⟨((w'.setCell ⟨w.heap.size, 0, none⟩ (.int .i64 0)).setCell ⟨w.heap.size, 1, none⟩ (.int .u8 0)).setCell ⟨w.heap.size, 2, none⟩ (.int .i64 0), ?_, K.far3, K.set3 hk⟩
        clear hk hx
        go_simp
        all_goals first | rfl | exact ⟨rfl, rfl⟩
      intro v9 w_9 hx_9 hg9
      simp only [Act.put, List.setIfInBounds_toArray, List.set]
      apply K.y_done
      intro w3 h3
      have hf3 := (hx_2.1.trans hx_9.1).trans h3.1
      have HX3 : K.Ext w w3 := K.Far.ext (HXV.out.drew) hf3 (Nat.le_refl _)
      have hb3 : w3.heap[w.heap.size]? = some (.cells #[.int .i64 0, .int .u8 0, .int .i64 0] 89) := h3.2.1 hg9
      have r0 : w3.cell? ⟨w.heap.size, 0, none⟩ = some (.int .i64 0) := K.cell_at hb3 rfl
      have r1 : w3.cell? ⟨w.heap.size, 1, none⟩ = some (.int .u8 0) := K.cell_at hb3 rfl
      have r2 : w3.cell? ⟨w.heap.size, 2, none⟩ = some (.int .i64 0) := K.cell_at hb3 rfl
      go_wp2_with fail
      refine NoPanic.normal ?_
      go_wp2
      refine bodyPost_ret (v := .tuple #[.agg #[.int .i64 0, .int .u8 0, .int .i64 0], .bool false]) (by unfold results; rw [Tryz.results80]; go_simp) rfl ⟨by rw [HE.out], ?_⟩
      exact HX3
    · have HV := Z.hide hv
      have HST := fun w' (hx : K.Ext w w') => stepText_any ⟨0, 0, 0⟩ w' hv (HLV.out.ext hx).t
      have HE : Hid (ok = decide (Z.str (Z.stepText ⟨0, 0, 0⟩) = s)) := Z.hide (by rw [HOK.out, hv, Bool.true_and])
      clear hv
      dsimp only at HST
      generalize Z.str (Z.stepText ⟨0, 0, 0⟩) = D at *
      have hbq := K.str_beq D s
      generalize decide (D = s) = q at *
      refine K.wp_region_y (R := K.RS w.heap.size (.cells #[.int .i64 0, .int .u8 0, .int .i64 0] 89) (.cells #[.int .i64 0, .int .u8 0, .int .i64 0] 89)) 10 [1, 1, 2, 0, 1, 2, 0, 0, 0, 2] [K.SQ.any, K.SQ.any, K.SQ.is (.bool true), K.SQ.any, K.SQ.any, K.SQ.is (.string D), K.SQ.any, K.SQ.any, K.SQ.any, K.SQ.so] (by kernel_rfl) (by kernel_rfl) ?_
      simp only [List.take_succ_cons, List.take_zero, List.drop_succ_cons, List.drop_zero]
      apply K.y_held
      · rfl
      · rfl
      · intro w' hx
        have hb := (hx.1.block (w.heap.size + 1) LT4.out (.inr (Nat.le_refl _))).trans HT.out
        have q0 : w'.cell? ⟨w.heap.size + 1, 0, none⟩ = some (.int .i64 0) := K.cell_at hb rfl
        have q1 : w'.cell? ⟨w.heap.size + 1, 1, none⟩ = some (.int .u8 0) := K.cell_at hb rfl
        have q2 : w'.cell? ⟨w.heap.size + 1, 2, none⟩ = some (.int .i64 0) := K.cell_at hb rfl
        go_simp; first | done | rfl | exact ⟨rfl, rfl⟩
      simp only [Act.put, List.setIfInBounds_toArray, List.set]
      apply K.y_held
      · rfl
      · rfl
      · intro w' hx
        have hb := (hx.1.block (w.heap.size + 1) LT4.out (.inr (Nat.le_refl _))).trans HT.out
        have q0 : w'.cell? ⟨w.heap.size + 1, 0, none⟩ = some (.int .i64 0) := K.cell_at hb rfl
        have q1 : w'.cell? ⟨w.heap.size + 1, 1, none⟩ = some (.int .u8 0) := K.cell_at hb rfl
        have q2 : w'.cell? ⟨w.heap.size + 1, 2, none⟩ = some (.int .i64 0) := K.cell_at hb rfl
        go_simp; first | done | rfl | exact ⟨rfl, rfl⟩
      simp only [Act.put, List.setIfInBounds_toArray, List.set]
      apply K.y_call_is
      · rfl
      · rfl
      · rfl
      · intro w'; go_simp; first | done | rfl | exact ⟨rfl, rfl⟩
      · intro w' hx hp
        exact (isStep_any' 0 0 0 true _ HV.out).mono fun e w'' ⟨he, hx'⟩ => ⟨he, (K.RS _ _ _).ext _ _ hx'⟩
      intro w_2 hx_2
      simp only [Act.put, List.setIfInBounds_toArray, List.set]
      apply K.y_pure
      · rfl
      · rfl
      · intro w'; go_simp; first | done | exact K.vint (IntWalk.i64_in _ (by omega)) | rfl | exact ⟨rfl, rfl⟩
      simp only [Act.put, List.setIfInBounds_toArray, List.set]
      apply K.y_held
      · rfl
      · rfl
      · intro w' hx
        have hb := (hx.1.block (w.heap.size + 1) LT4.out (.inr (Nat.le_refl _))).trans HT.out
        have q0 : w'.cell? ⟨w.heap.size + 1, 0, none⟩ = some (.int .i64 0) := K.cell_at hb rfl
        have q1 : w'.cell? ⟨w.heap.size + 1, 1, none⟩ = some (.int .u8 0) := K.cell_at hb rfl
        have q2 : w'.cell? ⟨w.heap.size + 1, 2, none⟩ = some (.int .i64 0) := K.cell_at hb rfl
        go_simp; first | done | rfl | exact ⟨rfl, rfl⟩
      simp only [Act.put, List.setIfInBounds_toArray, List.set]
      apply K.y_call_is
      · rfl
      · rfl
      · rfl
      · intro w'; go_simp; first | done | rfl | exact ⟨rfl, rfl⟩
      · intro w' hx hp
        exact (HST _ (K.Far.ext (HXV.out.drew) hx.1 (Nat.le_refl _))).mono fun e w'' ⟨he, hx'⟩ => ⟨he, (K.RS _ _ _).ext _ _ hx'⟩
      intro w_5 hx_5
      simp only [Act.put, List.setIfInBounds_toArray, List.set]
      apply K.y_pure
      · rfl
      · rfl
      · intro w'; go_simp; first | done | exact K.vint (IntWalk.i64_in _ (by omega)) | rfl | exact ⟨rfl, rfl⟩
      simp only [Act.put, List.setIfInBounds_toArray, List.set]
      apply K.y_pure
      · rfl
      · rfl
      · intro w'; go_simp; first | done | exact K.vint (IntWalk.i64_in _ (by omega)) | rfl | exact ⟨rfl, rfl⟩
      simp only [Act.put, List.setIfInBounds_toArray, List.set]
      apply K.y_pure
      · rfl
      · rfl
      · intro w'; go_simp; first | done | exact K.vint (IntWalk.i64_in _ (by omega)) | rfl | exact ⟨rfl, rfl⟩
      simp only [Act.put, List.setIfInBounds_toArray, List.set]
      apply K.y_so
      · rfl
      · rfl
      · rfl
      · intro w' hx
        have hk : ∃ c0 c1 c2, w'.heap[w.heap.size]? = some (.cells #[c0, c1, c2] 89) := by rcases K.RS_keep hx HR.out with hb | hb <;> exact ⟨_, _, _, hb⟩
        obtain ⟨c0, c1, c2, hk⟩ := hk
        obtain ⟨⟨q0, q1, q2⟩, ⟨t0, t1, t2⟩, _⟩ := K.box3 hk
        refine ⟨((w'.setCell ⟨w.heap.size, 0, none⟩ (.int .i64 0)).setCell ⟨w.heap.size, 1, none⟩ (.int .u8 0)).setCell ⟨w.heap.size, 2, none⟩ (.int .i64 0), ?_, K.far3, K.set3 hk⟩
        clear hk hx
        go_simp
        all_goals first | rfl | exact ⟨rfl, rfl⟩
      intro v9 w_9 hx_9 hg9
      simp only [Act.put, List.setIfInBounds_toArray, List.set]
      apply K.y_done
      intro w3 h3
      have hf3 := ((hx_2.1.trans hx_5.1).trans hx_9.1).trans h3.1
      have HX3 : K.Ext w w3 := K.Far.ext (HXV.out.drew) hf3 (Nat.le_refl _)
      have hb3 : w3.heap[w.heap.size]? = some (.cells #[.int .i64 0, .int .u8 0, .int .i64 0] 89) := h3.2.1 hg9
      have r0 : w3.cell? ⟨w.heap.size, 0, none⟩ = some (.int .i64 0) := K.cell_at hb3 rfl
      have r1 : w3.cell? ⟨w.heap.size, 1, none⟩ = some (.int .u8 0) := K.cell_at hb3 rfl
      have r2 : w3.cell? ⟨w.heap.size, 2, none⟩ = some (.int .i64 0) := K.cell_at hb3 rfl
      go_wp2_with fail
      refine NoPanic.normal ?_
      go_wp2
      refine bodyPost_ret (v := .tuple #[.agg #[.int .i64 0, .int .u8 0, .int .i64 0], .bool q]) (by unfold results; rw [Tryz.results80]; go_simp) rfl ⟨by rw [HE.out], ?_⟩
      exact HX3
set_option maxRecDepth 100000 in
set_option maxHeartbeats 6400000 in
theorem readStep_r (s : ByteArray) (t : List UInt8) (w : World) (hL : LV w) (hs : s.size ≤ 1048576) (h0 : s = Z.str (114 :: t)) :
    Calls Tryz.prog 80 #[.string s] w fun e w' => e = .returned (.tuple #[.agg #[.int .i64 2, .int .u8 0, .int .i64 (Z.number (Z.str t)).1], .bool (Z.isStep ⟨2, 0, (Z.number (Z.str t)).1⟩ && decide (Z.str (Z.stepText ⟨2, 0, (Z.number (Z.str t)).1⟩) = s))]) ∧ K.Ext w w' := by
  have HN := fun w' (hx : K.Ext w w') => number_any (Z.str t) w' (by rw [h0, Z.str_size] at hs; rw [Z.str_size]; simp at hs; omega) (hL.ext hx)
  generalize Z.number (Z.str t) = N at *
  obtain ⟨y, by_⟩ := N
  dsimp only at HN ⊢
  obtain ⟨ok, hok⟩ : ∃ ok, ok = (Z.isStep ⟨2, 0, y⟩ && decide (Z.str (Z.stepText ⟨2, 0, y⟩) = s)) := ⟨_, rfl⟩
  have HOK := Z.hide hok
  rw [← hok]
  clear hok
  have HLV := Z.hide hL
  have HP1 := fun w' => prefix_any s 120 false w' (by rw [h0, Z.str_bytes, Z.prefix_one]; decide)
  have HP2 := fun w' => prefix_any s 114 true w' (by rw [h0, Z.str_bytes, Z.prefix_one]; decide)
  have es : s.size = t.length + 1 := by rw [h0, Z.str_size]; rfl
  have e2 : s.extract 1 s.size = Z.str t := by rw [h0, ← Z.str_list ((Z.str (114 :: t)).extract 1 (Z.str (114 :: t)).size), Z.extract_bytes, Z.str_bytes, Z.str_size, List.take_length]; rfl
  have e3 := e2
  rw [es] at e3
  have i1 : (1 : Int) ≤ (s.size : Int) := by omega
  generalize Z.str t = ST at *
  clear h0 hL
  go_enter Tryz.func80, Tryz.ntmps80
  go_wp2_with fail
  refine K.call (by with_reducible rfl) (by with_reducible rfl) (HP1 _) ?_
  rintro e _ ⟨rfl, rfl⟩
  go_wp2_with fail
  refine K.call (by with_reducible rfl) (by with_reducible rfl) (HP2 _) ?_
  rintro e _ ⟨rfl, rfl⟩
  go_wp2_with fail
  refine K.call (by with_reducible rfl) (by with_reducible rfl) (HN _ K.bel) ?_
  rintro e w2 ⟨rfl, f2⟩
  have z2 := f2.size
  simp at z2
  have b2 := f2.block (show _ = some (.cells #[.int .i64 0, .int .u8 0, .int .i64 0] 89) from ((K.Ext.refl _).alloc _).block (K.block_new rfl))
  have b4 := f2.block (K.block_new (w := w.alloc (.cells #[.int .i64 0, .int .u8 0, .int .i64 0] 89)) (o := (.cells #[.int .i64 2, .int .u8 0, .int .i64 0] 89)) (g := w.heap.size + 1) (by simp))
  have x2 : K.Ext w w2 := K.Ext.trans K.bel f2
  clear f2
  have q0 := K.cell_at (i := 0) b4 rfl
  have q1 := K.cell_at (i := 1) b4 rfl
  have q2 := K.cell_at (i := 2) b4 rfl
  have q3 := K.thaw_at (i := 2) b4
  obtain ⟨V, hV⟩ : ∃ V, V = w2.setCell ⟨w.heap.size + 1, 2, none⟩ (.int .i64 y) := ⟨_, rfl⟩
  have HXV : Hid (K.Ext w V) := Z.hide (by rw [hV]; exact x2.setCell (by dsimp only; omega) _)
  have HT : Hid (V.heap[w.heap.size + 1]? = some (.cells #[.int .i64 2, .int .u8 0, .int .i64 y] 89)) := Z.hide (by rw [hV]; have e := Joins.block_setCell (i := 2) b4 (.int .i64 y); simp only [List.setIfInBounds_toArray, List.set] at e; exact e)
  have HR : Hid (V.heap[w.heap.size]? = some (.cells #[.int .i64 0, .int .u8 0, .int .i64 0] 89)) := Z.hide (by rw [hV]; exact (K.set_block' (by dsimp only; omega)).trans b2)
  have LT4 : Hid (w.heap.size + 1 < V.heap.size) := Z.hide (Array.getElem?_eq_some_iff.1 HT.out).1
  have hV' := hV.symm
  clear hV
  go_wp2_with fail
  cases hv : Z.isStep ⟨2, 0, y⟩
  · have HV := Z.hide hv
    have HE : Hid (ok = false) := Z.hide (by rw [HOK.out, hv]; rfl)
    clear hv
    refine K.wp_region_y (R := K.RS w.heap.size (.cells #[.int .i64 0, .int .u8 0, .int .i64 0] 89) (.cells #[.int .i64 2, .int .u8 0, .int .i64 y] 89)) 10 [1, 1, 2, 0, 1, 2, 0, 0, 0, 2] [K.SQ.any, K.SQ.any, K.SQ.is (.bool false), K.SQ.any, K.SQ.any, K.SQ.any, K.SQ.any, K.SQ.any, K.SQ.any, K.SQ.so] (by kernel_rfl) (by kernel_rfl) ?_
    simp only [List.take_succ_cons, List.take_zero, List.drop_succ_cons, List.drop_zero]
    apply K.y_held
    · rfl
    · rfl
    · intro w' hx
      have hb := (hx.1.block (w.heap.size + 1) LT4.out (.inr (Nat.le_refl _))).trans HT.out
      have q0 : w'.cell? ⟨w.heap.size + 1, 0, none⟩ = some (.int .i64 2) := K.cell_at hb rfl
      have q1 : w'.cell? ⟨w.heap.size + 1, 1, none⟩ = some (.int .u8 0) := K.cell_at hb rfl
      have q2 : w'.cell? ⟨w.heap.size + 1, 2, none⟩ = some (.int .i64 y) := K.cell_at hb rfl
      go_simp; first | done | rfl | exact ⟨rfl, rfl⟩
    simp only [Act.put, List.setIfInBounds_toArray, List.set]
    apply K.y_held
    · rfl
    · rfl
    · intro w' hx
      have hb := (hx.1.block (w.heap.size + 1) LT4.out (.inr (Nat.le_refl _))).trans HT.out
      have q0 : w'.cell? ⟨w.heap.size + 1, 0, none⟩ = some (.int .i64 2) := K.cell_at hb rfl
      have q1 : w'.cell? ⟨w.heap.size + 1, 1, none⟩ = some (.int .u8 0) := K.cell_at hb rfl
      have q2 : w'.cell? ⟨w.heap.size + 1, 2, none⟩ = some (.int .i64 y) := K.cell_at hb rfl
      go_simp; first | done | rfl | exact ⟨rfl, rfl⟩
    simp only [Act.put, List.setIfInBounds_toArray, List.set]
    apply K.y_call_is
    · rfl
    · rfl
    · rfl
    · intro w'; go_simp; first | done | rfl | exact ⟨rfl, rfl⟩
    · intro w' hx hp
      exact (isStep_any' 2 0 y false _ HV.out).mono fun e w'' ⟨he, hx'⟩ => ⟨he, (K.RS _ _ _).ext _ _ hx'⟩
    intro w_2 hx_2
    simp only [Act.put, List.setIfInBounds_toArray, List.set]
    apply K.y_pure
    · rfl
    · rfl
    · intro w'; go_simp; first | done | exact K.vint (IntWalk.i64_in _ (by omega)) | rfl | exact ⟨rfl, rfl⟩
    simp only [Act.put, List.setIfInBounds_toArray, List.set]
    refine K.y_skip (by rfl) ?_
    simp only [Act.put, List.setIfInBounds_toArray, List.set]
    refine K.y_skip (by rfl) ?_
    simp only [Act.put, List.setIfInBounds_toArray, List.set]
    refine K.y_skip (by rfl) ?_
    simp only [Act.put, List.setIfInBounds_toArray, List.set]
    refine K.y_skip (by rfl) ?_
    simp only [Act.put, List.setIfInBounds_toArray, List.set]
    apply K.y_pure
    · rfl
    · rfl
    · intro w'; go_simp; first | done | exact K.vint (IntWalk.i64_in _ (by omega)) | rfl | exact ⟨rfl, rfl⟩
    simp only [Act.put, List.setIfInBounds_toArray, List.set]
    apply K.y_so
    · rfl
    · rfl
    · rfl
    · intro w' hx
      have hk : ∃ c0 c1 c2, w'.heap[w.heap.size]? = some (.cells #[c0, c1, c2] 89) := by rcases K.RS_keep hx HR.out with hb | hb <;> exact ⟨_, _, _, hb⟩
      obtain ⟨c0, c1, c2, hk⟩ := hk
      obtain ⟨⟨q0, q1, q2⟩, ⟨t0, t1, t2⟩, _⟩ := K.box3 hk
      refine ⟨((w'.setCell ⟨w.heap.size, 0, none⟩ (.int .i64 2)).setCell ⟨w.heap.size, 1, none⟩ (.int .u8 0)).setCell ⟨w.heap.size, 2, none⟩ (.int .i64 y), ?_, K.far3, K.set3 hk⟩
      clear hk hx
      go_simp
      all_goals first | rfl | exact ⟨rfl, rfl⟩
    intro v9 w_9 hx_9 hg9
    simp only [Act.put, List.setIfInBounds_toArray, List.set]
    apply K.y_done
    intro w3 h3
    have hf3 := (hx_2.1.trans hx_9.1).trans h3.1
    have HX3 : K.Ext w w3 := K.Far.ext (HXV.out.drew) hf3 (Nat.le_refl _)
    have hb3 : w3.heap[w.heap.size]? = some (.cells #[.int .i64 2, .int .u8 0, .int .i64 y] 89) := h3.2.1 hg9
    have r0 : w3.cell? ⟨w.heap.size, 0, none⟩ = some (.int .i64 2) := K.cell_at hb3 rfl
    have r1 : w3.cell? ⟨w.heap.size, 1, none⟩ = some (.int .u8 0) := K.cell_at hb3 rfl
    have r2 : w3.cell? ⟨w.heap.size, 2, none⟩ = some (.int .i64 y) := K.cell_at hb3 rfl
    go_wp2_with fail
    refine NoPanic.normal ?_
    go_wp2
    refine bodyPost_ret (v := .tuple #[.agg #[.int .i64 2, .int .u8 0, .int .i64 y], .bool false]) (by unfold results; rw [Tryz.results80]; go_simp) rfl ⟨by rw [HE.out], ?_⟩
    exact HX3
  · have HV := Z.hide hv
    have HST := fun w' (hx : K.Ext w w') => stepText_any ⟨2, 0, y⟩ w' hv (HLV.out.ext hx).t
    have HE : Hid (ok = decide (Z.str (Z.stepText ⟨2, 0, y⟩) = s)) := Z.hide (by rw [HOK.out, hv, Bool.true_and])
    clear hv
    dsimp only at HST
    generalize Z.str (Z.stepText ⟨2, 0, y⟩) = D at *
    have hbq := K.str_beq D s
    generalize decide (D = s) = q at *
    refine K.wp_region_y (R := K.RS w.heap.size (.cells #[.int .i64 0, .int .u8 0, .int .i64 0] 89) (.cells #[.int .i64 2, .int .u8 0, .int .i64 y] 89)) 10 [1, 1, 2, 0, 1, 2, 0, 0, 0, 2] [K.SQ.any, K.SQ.any, K.SQ.is (.bool true), K.SQ.any, K.SQ.any, K.SQ.is (.string D), K.SQ.any, K.SQ.any, K.SQ.any, K.SQ.so] (by kernel_rfl) (by kernel_rfl) ?_
    simp only [List.take_succ_cons, List.take_zero, List.drop_succ_cons, List.drop_zero]
    apply K.y_held
    · rfl
    · rfl
    · intro w' hx
      have hb := (hx.1.block (w.heap.size + 1) LT4.out (.inr (Nat.le_refl _))).trans HT.out
      have q0 : w'.cell? ⟨w.heap.size + 1, 0, none⟩ = some (.int .i64 2) := K.cell_at hb rfl
      have q1 : w'.cell? ⟨w.heap.size + 1, 1, none⟩ = some (.int .u8 0) := K.cell_at hb rfl
      have q2 : w'.cell? ⟨w.heap.size + 1, 2, none⟩ = some (.int .i64 y) := K.cell_at hb rfl
      go_simp; first | done | rfl | exact ⟨rfl, rfl⟩
    simp only [Act.put, List.setIfInBounds_toArray, List.set]
    apply K.y_held
    · rfl
    · rfl
    · intro w' hx
      have hb := (hx.1.block (w.heap.size + 1) LT4.out (.inr (Nat.le_refl _))).trans HT.out
      have q0 : w'.cell? ⟨w.heap.size + 1, 0, none⟩ = some (.int .i64 2) := K.cell_at hb rfl
      have q1 : w'.cell? ⟨w.heap.size + 1, 1, none⟩ = some (.int .u8 0) := K.cell_at hb rfl
      have q2 : w'.cell? ⟨w.heap.size + 1, 2, none⟩ = some (.int .i64 y) := K.cell_at hb rfl
      go_simp; first | done | rfl | exact ⟨rfl, rfl⟩
    simp only [Act.put, List.setIfInBounds_toArray, List.set]
    apply K.y_call_is
    · rfl
    · rfl
    · rfl
    · intro w'; go_simp; first | done | rfl | exact ⟨rfl, rfl⟩
    · intro w' hx hp
      exact (isStep_any' 2 0 y true _ HV.out).mono fun e w'' ⟨he, hx'⟩ => ⟨he, (K.RS _ _ _).ext _ _ hx'⟩
    intro w_2 hx_2
    simp only [Act.put, List.setIfInBounds_toArray, List.set]
    apply K.y_pure
    · rfl
    · rfl
    · intro w'; go_simp; first | done | exact K.vint (IntWalk.i64_in _ (by omega)) | rfl | exact ⟨rfl, rfl⟩
    simp only [Act.put, List.setIfInBounds_toArray, List.set]
    apply K.y_held
    · rfl
    · rfl
    · intro w' hx
      have hb := (hx.1.block (w.heap.size + 1) LT4.out (.inr (Nat.le_refl _))).trans HT.out
      have q0 : w'.cell? ⟨w.heap.size + 1, 0, none⟩ = some (.int .i64 2) := K.cell_at hb rfl
      have q1 : w'.cell? ⟨w.heap.size + 1, 1, none⟩ = some (.int .u8 0) := K.cell_at hb rfl
      have q2 : w'.cell? ⟨w.heap.size + 1, 2, none⟩ = some (.int .i64 y) := K.cell_at hb rfl
      go_simp; first | done | rfl | exact ⟨rfl, rfl⟩
    simp only [Act.put, List.setIfInBounds_toArray, List.set]
    apply K.y_call_is
    · rfl
    · rfl
    · rfl
    · intro w'; go_simp; first | done | rfl | exact ⟨rfl, rfl⟩
    · intro w' hx hp
      exact (HST _ (K.Far.ext (HXV.out.drew) hx.1 (Nat.le_refl _))).mono fun e w'' ⟨he, hx'⟩ => ⟨he, (K.RS _ _ _).ext _ _ hx'⟩
    intro w_5 hx_5
    simp only [Act.put, List.setIfInBounds_toArray, List.set]
    apply K.y_pure
    · rfl
    · rfl
    · intro w'; go_simp; first | done | exact K.vint (IntWalk.i64_in _ (by omega)) | rfl | exact ⟨rfl, rfl⟩
    simp only [Act.put, List.setIfInBounds_toArray, List.set]
    apply K.y_pure
    · rfl
    · rfl
    · intro w'; go_simp; first | done | exact K.vint (IntWalk.i64_in _ (by omega)) | rfl | exact ⟨rfl, rfl⟩
    simp only [Act.put, List.setIfInBounds_toArray, List.set]
    apply K.y_pure
    · rfl
    · rfl
    · intro w'; go_simp; first | done | exact K.vint (IntWalk.i64_in _ (by omega)) | rfl | exact ⟨rfl, rfl⟩
    simp only [Act.put, List.setIfInBounds_toArray, List.set]
    apply K.y_so
    · rfl
    · rfl
    · rfl
    · intro w' hx
      have hk : ∃ c0 c1 c2, w'.heap[w.heap.size]? = some (.cells #[c0, c1, c2] 89) := by rcases K.RS_keep hx HR.out with hb | hb <;> exact ⟨_, _, _, hb⟩
      obtain ⟨c0, c1, c2, hk⟩ := hk
      obtain ⟨⟨q0, q1, q2⟩, ⟨t0, t1, t2⟩, _⟩ := K.box3 hk
      refine ⟨((w'.setCell ⟨w.heap.size, 0, none⟩ (.int .i64 2)).setCell ⟨w.heap.size, 1, none⟩ (.int .u8 0)).setCell ⟨w.heap.size, 2, none⟩ (.int .i64 y), ?_, K.far3, K.set3 hk⟩
      clear hk hx
      go_simp
      all_goals first | rfl | exact ⟨rfl, rfl⟩
    intro v9 w_9 hx_9 hg9
    simp only [Act.put, List.setIfInBounds_toArray, List.set]
    apply K.y_done
    intro w3 h3
    have hf3 := ((hx_2.1.trans hx_5.1).trans hx_9.1).trans h3.1
    have HX3 : K.Ext w w3 := K.Far.ext (HXV.out.drew) hf3 (Nat.le_refl _)
    have hb3 : w3.heap[w.heap.size]? = some (.cells #[.int .i64 2, .int .u8 0, .int .i64 y] 89) := h3.2.1 hg9
    have r0 : w3.cell? ⟨w.heap.size, 0, none⟩ = some (.int .i64 2) := K.cell_at hb3 rfl
    have r1 : w3.cell? ⟨w.heap.size, 1, none⟩ = some (.int .u8 0) := K.cell_at hb3 rfl
    have r2 : w3.cell? ⟨w.heap.size, 2, none⟩ = some (.int .i64 y) := K.cell_at hb3 rfl
    go_wp2_with fail
    refine NoPanic.normal ?_
    go_wp2
    refine bodyPost_ret (v := .tuple #[.agg #[.int .i64 2, .int .u8 0, .int .i64 y], .bool q]) (by unfold results; rw [Tryz.results80]; go_simp) rfl ⟨by rw [HE.out], ?_⟩
    exact HX3
set_option maxRecDepth 100000 in
set_option maxHeartbeats 6400000 in
theorem readStep_x (s : ByteArray) (c d : UInt8) (t : List UInt8) (w : World) (hL : LV w) (hs : s.size ≤ 1048576) (h0 : s = Z.str (120 :: c :: d :: t)) :
    Calls Tryz.prog 80 #[.string s] w fun e w' => e = .returned (.tuple #[.agg #[.int .i64 1, .int .u8 (c.toNat : Int), .int .i64 (Z.number (Z.str (d :: t))).1], .bool (Z.isStep ⟨1, (c.toNat : Int), (Z.number (Z.str (d :: t))).1⟩ && decide (Z.str (Z.stepText ⟨1, (c.toNat : Int), (Z.number (Z.str (d :: t))).1⟩) = s))]) ∧ K.Ext w w' := by
  have HN := fun w' (hx : K.Ext w w') => number_any (Z.str (d :: t)) w' (by rw [h0, Z.str_size] at hs; rw [Z.str_size]; simp at hs ⊢; omega) (hL.ext hx)
  generalize Z.number (Z.str (d :: t)) = N at *
  obtain ⟨y, by_⟩ := N
  dsimp only at HN ⊢
  obtain ⟨ok, hok⟩ : ∃ ok, ok = (Z.isStep ⟨1, (c.toNat : Int), y⟩ && decide (Z.str (Z.stepText ⟨1, (c.toNat : Int), y⟩) = s)) := ⟨_, rfl⟩
  have HOK := Z.hide hok
  rw [← hok]
  clear hok
  have HLV := Z.hide hL
  have HP1 := fun w' => prefix_any s 120 true w' (by rw [h0, Z.str_bytes, Z.prefix_one]; decide)
  have es : s.size = t.length + 3 := by rw [h0, Z.str_size]; rfl
  have e2 : s.extract 2 s.size = Z.str (d :: t) := by rw [h0, ← Z.str_list ((Z.str (120 :: c :: d :: t)).extract 2 (Z.str (120 :: c :: d :: t)).size), Z.extract_bytes, Z.str_bytes, Z.str_size, List.take_length]; rfl
  have l1 : 1 < s.size := by omega
  have e1 : s[1]'l1 = c := by subst h0; rfl
  have i1 : (1 : Int) < (s.size : Int) := by omega
  have i2 : (2 : Int) < (s.size : Int) := by omega
  have i3 : (2 : Int) ≤ (s.size : Int) := by omega
  generalize Z.str (d :: t) = ST at *
  clear h0 hL es
  obtain ⟨V0, hV0⟩ : ∃ V, V = (w.alloc (.cells #[.int .i64 0, .int .u8 0, .int .i64 0] 89)).alloc (.cells #[.int .i64 0, .int .u8 0, .int .i64 0] 89) := ⟨_, rfl⟩
  have X0 : K.Ext w V0 := by rw [hV0]; exact ((K.Ext.refl w).alloc _).alloc _
  have A4 : V0.heap[w.heap.size + 1]? = some (.cells #[.int .i64 0, .int .u8 0, .int .i64 0] 89) := by rw [hV0]; exact K.block_new (by simp)
  have A2 : V0.heap[w.heap.size]? = some (.cells #[.int .i64 0, .int .u8 0, .int .i64 0] 89) := by rw [hV0]; exact ((K.Ext.refl _).alloc _).block (K.block_new rfl)
  have HA := Z.hide (And.intro X0 (And.intro A4 A2))
  have HV0 := Z.hide hV0
  clear hV0 X0 A4 A2
  go_enter Tryz.func80, Tryz.ntmps80
  go_wp2_with fail
  refine K.call (by with_reducible rfl) (by with_reducible rfl) (HP1 _) ?_
  rintro e _ ⟨rfl, rfl⟩
  go_wp2_with fail
  obtain ⟨X0, A4, A2⟩ := HA.out
  rw [← HV0.out]
  refine K.wp_region_y (R := K.RS (w.heap.size + 1) (.cells #[.int .i64 0, .int .u8 0, .int .i64 0] 89) (.cells #[.int .i64 1, .int .u8 0, .int .i64 0] 89)) 4 [0, 0, 0, 2] [K.SQ.any, K.SQ.any, K.SQ.any, K.SQ.so] (by kernel_rfl) (by kernel_rfl) ?_
  simp only [List.take_succ_cons, List.take_zero, List.drop_succ_cons, List.drop_zero]
  apply K.y_pure
  · rfl
  · rfl
  · intro w'; go_simp; first | done | exact K.vint (IntWalk.i64_in _ (by omega)) | rfl | exact ⟨rfl, rfl⟩
  simp only [Act.put, List.setIfInBounds_toArray, List.set]
  apply K.y_pure
  · rfl
  · rfl
  · intro w'; go_simp; first | done | exact K.vint (IntWalk.i64_in _ (by omega)) | rfl | exact ⟨rfl, rfl⟩
  simp only [Act.put, List.setIfInBounds_toArray, List.set]
  apply K.y_pure
  · rfl
  · rfl
  · intro w'; go_simp; first | done | exact K.vint (IntWalk.i64_in _ (by omega)) | rfl | exact ⟨rfl, rfl⟩
  simp only [Act.put, List.setIfInBounds_toArray, List.set]
  apply K.y_so
  · rfl
  · rfl
  · rfl
  · intro w' hx
    have hk : ∃ c0 c1 c2, w'.heap[w.heap.size + 1]? = some (.cells #[c0, c1, c2] 89) ∧ (c1 = .int .u8 0 ∧ c2 = .int .i64 0) := by rcases K.RS_keep hx A4 with hb | hb <;> exact ⟨_, _, _, hb, rfl, rfl⟩
    obtain ⟨c0, _, _, hk, rfl, rfl⟩ := hk
    obtain ⟨⟨q0, q1, q2⟩, ⟨t0, t1, t2⟩, _⟩ := K.box3 hk
    refine ⟨w'.setCell ⟨w.heap.size + 1, 0, none⟩ (.int .i64 1), ?_, (K.Far.refl _ _ _).setCell (p := ⟨w.heap.size + 1, 0, none⟩) (Nat.le_refl _) (Nat.lt_succ_self _) _, ?_⟩
    · clear hk hx
      go_simp
      all_goals first | rfl | exact ⟨rfl, rfl⟩
    · have e := Joins.block_setCell (i := 0) hk (.int .i64 1); simp only [List.setIfInBounds_toArray, List.set] at e; exact e
  intro v9 w_9 hx_9 hg9
  simp only [Act.put, List.setIfInBounds_toArray, List.set]
  apply K.y_done
  intro w1 h1
  have f1 := hx_9.1.trans h1.1
  have x1 : K.Ext w w1 := K.Far.ext (X0.drew) f1 (Nat.le_succ _)
  have b4 := h1.2.1 hg9
  have b2 := (f1.block w.heap.size (Array.getElem?_eq_some_iff.1 A2).1 (.inl (Nat.lt_succ_self _))).trans A2
  obtain ⟨⟨q0, q1, q2⟩, ⟨t0, t1, t2⟩, l4⟩ := K.box3 b4
  have l4' := (Array.getElem?_eq_some_iff.1 b2).1
  go_wp2_with fail
  refine NoPanic.normal ?_
  go_wp2_with fail
  refine K.call (by with_reducible rfl) (by with_reducible rfl) (HN _ (x1.setCell (by dsimp only; omega) _)) ?_
  rintro e w2 ⟨rfl, f2⟩
  have z2 := f2.size
  simp at z2
  have b2' := f2.block ((K.set_block' (a := ⟨w.heap.size + 1, 1, none⟩) (show w.heap.size ≠ w.heap.size + 1 by omega)).trans b2)
  have b4' := f2.block (by have e := Joins.block_setCell (i := 1) b4 (.int .u8 (c.toNat : Int)); simp only [List.setIfInBounds_toArray, List.set] at e; exact e)
  have x2 : K.Ext w w2 := K.Ext.trans (x1.setCell (p := ⟨w.heap.size + 1, 1, none⟩) (by dsimp only; omega) _) f2
  clear f2 q0 q1 q2 t0 t1 t2 b2 b4 x1 f1 l4' hg9 h1
  obtain ⟨⟨q0, q1, q2⟩, ⟨t0, t1, t2⟩, l4'⟩ := K.box3 b4'
  obtain ⟨V, hV⟩ : ∃ V, V = w2.setCell ⟨w.heap.size + 1, 2, none⟩ (.int .i64 y) := ⟨_, rfl⟩
  have HXV : Hid (K.Ext w V) := Z.hide (by rw [hV]; exact x2.setCell (by dsimp only; omega) _)
  have HT : Hid (V.heap[w.heap.size + 1]? = some (.cells #[.int .i64 1, .int .u8 (c.toNat : Int), .int .i64 y] 89)) := Z.hide (by rw [hV]; have e := Joins.block_setCell (i := 2) b4' (.int .i64 y); simp only [List.setIfInBounds_toArray, List.set] at e; exact e)
  have HR : Hid (V.heap[w.heap.size]? = some (.cells #[.int .i64 0, .int .u8 0, .int .i64 0] 89)) := Z.hide (by rw [hV]; exact (K.set_block' (by dsimp only; omega)).trans b2')
  have LT4 : Hid (w.heap.size + 1 < V.heap.size) := Z.hide (Array.getElem?_eq_some_iff.1 HT.out).1
  have hV' := hV.symm
  clear hV
  clear b4' b2' x2
  go_wp2_with fail
  clear q0 q1 q2 t0 t1 t2
  cases hv : Z.isStep ⟨1, (c.toNat : Int), y⟩
  · have HV := Z.hide hv
    have HE : Hid (ok = false) := Z.hide (by rw [HOK.out, hv]; rfl)
    clear hv
    refine K.wp_region_y (R := K.RS w.heap.size (.cells #[.int .i64 0, .int .u8 0, .int .i64 0] 89) (.cells #[.int .i64 1, .int .u8 (c.toNat : Int), .int .i64 y] 89)) 10 [1, 1, 2, 0, 1, 2, 0, 0, 0, 2] [K.SQ.any, K.SQ.any, K.SQ.is (.bool false), K.SQ.any, K.SQ.any, K.SQ.any, K.SQ.any, K.SQ.any, K.SQ.any, K.SQ.so] (by kernel_rfl) (by kernel_rfl) ?_
    simp only [List.take_succ_cons, List.take_zero, List.drop_succ_cons, List.drop_zero]
    apply K.y_held
    · rfl
    · rfl
    · intro w' hx
      have hb := (hx.1.block (w.heap.size + 1) LT4.out (.inr (Nat.le_refl _))).trans HT.out
      have q0 : w'.cell? ⟨w.heap.size + 1, 0, none⟩ = some (.int .i64 1) := K.cell_at hb rfl
      have q1 : w'.cell? ⟨w.heap.size + 1, 1, none⟩ = some (.int .u8 (c.toNat : Int)) := K.cell_at hb rfl
      have q2 : w'.cell? ⟨w.heap.size + 1, 2, none⟩ = some (.int .i64 y) := K.cell_at hb rfl
      go_simp; first | done | rfl | exact ⟨rfl, rfl⟩
    simp only [Act.put, List.setIfInBounds_toArray, List.set]
    apply K.y_held
    · rfl
    · rfl
    · intro w' hx
      have hb := (hx.1.block (w.heap.size + 1) LT4.out (.inr (Nat.le_refl _))).trans HT.out
      have q0 : w'.cell? ⟨w.heap.size + 1, 0, none⟩ = some (.int .i64 1) := K.cell_at hb rfl
      have q1 : w'.cell? ⟨w.heap.size + 1, 1, none⟩ = some (.int .u8 (c.toNat : Int)) := K.cell_at hb rfl
      have q2 : w'.cell? ⟨w.heap.size + 1, 2, none⟩ = some (.int .i64 y) := K.cell_at hb rfl
      go_simp; first | done | rfl | exact ⟨rfl, rfl⟩
    simp only [Act.put, List.setIfInBounds_toArray, List.set]
    apply K.y_call_is
    · rfl
    · rfl
    · rfl
    · intro w'; go_simp; first | done | rfl | exact ⟨rfl, rfl⟩
    · intro w' hx hp
      exact (isStep_any' 1 (c.toNat : Int) y false _ HV.out).mono fun e w'' ⟨he, hx'⟩ => ⟨he, (K.RS _ _ _).ext _ _ hx'⟩
    intro w_2 hx_2
    simp only [Act.put, List.setIfInBounds_toArray, List.set]
    apply K.y_pure
    · rfl
    · rfl
    · intro w'; go_simp; first | done | exact K.vint (IntWalk.i64_in _ (by omega)) | rfl | exact ⟨rfl, rfl⟩
    simp only [Act.put, List.setIfInBounds_toArray, List.set]
    refine K.y_skip (by rfl) ?_
    simp only [Act.put, List.setIfInBounds_toArray, List.set]
    refine K.y_skip (by rfl) ?_
    simp only [Act.put, List.setIfInBounds_toArray, List.set]
    refine K.y_skip (by rfl) ?_
    simp only [Act.put, List.setIfInBounds_toArray, List.set]
    refine K.y_skip (by rfl) ?_
    simp only [Act.put, List.setIfInBounds_toArray, List.set]
    apply K.y_pure
    · rfl
    · rfl
    · intro w'; go_simp; first | done | exact K.vint (IntWalk.i64_in _ (by omega)) | rfl | exact ⟨rfl, rfl⟩
    simp only [Act.put, List.setIfInBounds_toArray, List.set]
    apply K.y_so
    · rfl
    · rfl
    · rfl
    · intro w' hx
      have hk : ∃ c0 c1 c2, w'.heap[w.heap.size]? = some (.cells #[c0, c1, c2] 89) := by rcases K.RS_keep hx HR.out with hb | hb <;> exact ⟨_, _, _, hb⟩
      obtain ⟨c0, c1, c2, hk⟩ := hk
      obtain ⟨⟨q0, q1, q2⟩, ⟨t0, t1, t2⟩, _⟩ := K.box3 hk
      refine ⟨((w'.setCell ⟨w.heap.size, 0, none⟩ (.int .i64 1)).setCell ⟨w.heap.size, 1, none⟩ (.int .u8 (c.toNat : Int))).setCell ⟨w.heap.size, 2, none⟩ (.int .i64 y), ?_, K.far3, K.set3 hk⟩
      clear hk hx
      go_simp
      all_goals first | rfl | exact ⟨rfl, rfl⟩
    intro v9 w_9 hx_9 hg9
    simp only [Act.put, List.setIfInBounds_toArray, List.set]
    apply K.y_done
    intro w3 h3
    have hf3 := (hx_2.1.trans hx_9.1).trans h3.1
    have HX3 : K.Ext w w3 := K.Far.ext (HXV.out.drew) hf3 (Nat.le_refl _)
    have hb3 : w3.heap[w.heap.size]? = some (.cells #[.int .i64 1, .int .u8 (c.toNat : Int), .int .i64 y] 89) := h3.2.1 hg9
    have r0 : w3.cell? ⟨w.heap.size, 0, none⟩ = some (.int .i64 1) := K.cell_at hb3 rfl
    have r1 : w3.cell? ⟨w.heap.size, 1, none⟩ = some (.int .u8 (c.toNat : Int)) := K.cell_at hb3 rfl
    have r2 : w3.cell? ⟨w.heap.size, 2, none⟩ = some (.int .i64 y) := K.cell_at hb3 rfl
    go_wp2_with fail
    refine NoPanic.normal ?_
    go_wp2
    refine bodyPost_ret (v := .tuple #[.agg #[.int .i64 1, .int .u8 (c.toNat : Int), .int .i64 y], .bool false]) (by unfold results; rw [Tryz.results80]; go_simp) rfl ⟨by rw [HE.out], ?_⟩
    exact HX3
  · have HV := Z.hide hv
    have HST := fun w' (hx : K.Ext w w') => stepText_any ⟨1, (c.toNat : Int), y⟩ w' hv (HLV.out.ext hx).t
    have HE : Hid (ok = decide (Z.str (Z.stepText ⟨1, (c.toNat : Int), y⟩) = s)) := Z.hide (by rw [HOK.out, hv, Bool.true_and])
    clear hv
    dsimp only at HST
    generalize Z.str (Z.stepText ⟨1, (c.toNat : Int), y⟩) = D at *
    have hbq := K.str_beq D s
    generalize decide (D = s) = q at *
    refine K.wp_region_y (R := K.RS w.heap.size (.cells #[.int .i64 0, .int .u8 0, .int .i64 0] 89) (.cells #[.int .i64 1, .int .u8 (c.toNat : Int), .int .i64 y] 89)) 10 [1, 1, 2, 0, 1, 2, 0, 0, 0, 2] [K.SQ.any, K.SQ.any, K.SQ.is (.bool true), K.SQ.any, K.SQ.any, K.SQ.is (.string D), K.SQ.any, K.SQ.any, K.SQ.any, K.SQ.so] (by kernel_rfl) (by kernel_rfl) ?_
    simp only [List.take_succ_cons, List.take_zero, List.drop_succ_cons, List.drop_zero]
    apply K.y_held
    · rfl
    · rfl
    · intro w' hx
      have hb := (hx.1.block (w.heap.size + 1) LT4.out (.inr (Nat.le_refl _))).trans HT.out
      have q0 : w'.cell? ⟨w.heap.size + 1, 0, none⟩ = some (.int .i64 1) := K.cell_at hb rfl
      have q1 : w'.cell? ⟨w.heap.size + 1, 1, none⟩ = some (.int .u8 (c.toNat : Int)) := K.cell_at hb rfl
      have q2 : w'.cell? ⟨w.heap.size + 1, 2, none⟩ = some (.int .i64 y) := K.cell_at hb rfl
      go_simp; first | done | rfl | exact ⟨rfl, rfl⟩
    simp only [Act.put, List.setIfInBounds_toArray, List.set]
    apply K.y_held
    · rfl
    · rfl
    · intro w' hx
      have hb := (hx.1.block (w.heap.size + 1) LT4.out (.inr (Nat.le_refl _))).trans HT.out
      have q0 : w'.cell? ⟨w.heap.size + 1, 0, none⟩ = some (.int .i64 1) := K.cell_at hb rfl
      have q1 : w'.cell? ⟨w.heap.size + 1, 1, none⟩ = some (.int .u8 (c.toNat : Int)) := K.cell_at hb rfl
      have q2 : w'.cell? ⟨w.heap.size + 1, 2, none⟩ = some (.int .i64 y) := K.cell_at hb rfl
      go_simp; first | done | rfl | exact ⟨rfl, rfl⟩
    simp only [Act.put, List.setIfInBounds_toArray, List.set]
    apply K.y_call_is
    · rfl
    · rfl
    · rfl
    · intro w'; go_simp; first | done | rfl | exact ⟨rfl, rfl⟩
    · intro w' hx hp
      exact (isStep_any' 1 (c.toNat : Int) y true _ HV.out).mono fun e w'' ⟨he, hx'⟩ => ⟨he, (K.RS _ _ _).ext _ _ hx'⟩
    intro w_2 hx_2
    simp only [Act.put, List.setIfInBounds_toArray, List.set]
    apply K.y_pure
    · rfl
    · rfl
    · intro w'; go_simp; first | done | exact K.vint (IntWalk.i64_in _ (by omega)) | rfl | exact ⟨rfl, rfl⟩
    simp only [Act.put, List.setIfInBounds_toArray, List.set]
    apply K.y_held
    · rfl
    · rfl
    · intro w' hx
      have hb := (hx.1.block (w.heap.size + 1) LT4.out (.inr (Nat.le_refl _))).trans HT.out
      have q0 : w'.cell? ⟨w.heap.size + 1, 0, none⟩ = some (.int .i64 1) := K.cell_at hb rfl
      have q1 : w'.cell? ⟨w.heap.size + 1, 1, none⟩ = some (.int .u8 (c.toNat : Int)) := K.cell_at hb rfl
      have q2 : w'.cell? ⟨w.heap.size + 1, 2, none⟩ = some (.int .i64 y) := K.cell_at hb rfl
      go_simp; first | done | rfl | exact ⟨rfl, rfl⟩
    simp only [Act.put, List.setIfInBounds_toArray, List.set]
    apply K.y_call_is
    · rfl
    · rfl
    · rfl
    · intro w'; go_simp; first | done | rfl | exact ⟨rfl, rfl⟩
    · intro w' hx hp
      exact (HST _ (K.Far.ext (HXV.out.drew) hx.1 (Nat.le_refl _))).mono fun e w'' ⟨he, hx'⟩ => ⟨he, (K.RS _ _ _).ext _ _ hx'⟩
    intro w_5 hx_5
    simp only [Act.put, List.setIfInBounds_toArray, List.set]
    apply K.y_pure
    · rfl
    · rfl
    · intro w'; go_simp; first | done | exact K.vint (IntWalk.i64_in _ (by omega)) | rfl | exact ⟨rfl, rfl⟩
    simp only [Act.put, List.setIfInBounds_toArray, List.set]
    apply K.y_pure
    · rfl
    · rfl
    · intro w'; go_simp; first | done | exact K.vint (IntWalk.i64_in _ (by omega)) | rfl | exact ⟨rfl, rfl⟩
    simp only [Act.put, List.setIfInBounds_toArray, List.set]
    apply K.y_pure
    · rfl
    · rfl
    · intro w'; go_simp; first | done | exact K.vint (IntWalk.i64_in _ (by omega)) | rfl | exact ⟨rfl, rfl⟩
    simp only [Act.put, List.setIfInBounds_toArray, List.set]
    apply K.y_so
    · rfl
    · rfl
    · rfl
    · intro w' hx
      have hk : ∃ c0 c1 c2, w'.heap[w.heap.size]? = some (.cells #[c0, c1, c2] 89) := by rcases K.RS_keep hx HR.out with hb | hb <;> exact ⟨_, _, _, hb⟩
      obtain ⟨c0, c1, c2, hk⟩ := hk
      obtain ⟨⟨q0, q1, q2⟩, ⟨t0, t1, t2⟩, _⟩ := K.box3 hk
      refine ⟨((w'.setCell ⟨w.heap.size, 0, none⟩ (.int .i64 1)).setCell ⟨w.heap.size, 1, none⟩ (.int .u8 (c.toNat : Int))).setCell ⟨w.heap.size, 2, none⟩ (.int .i64 y), ?_, K.far3, K.set3 hk⟩
      clear hk hx
      go_simp
      all_goals first | rfl | exact ⟨rfl, rfl⟩
    intro v9 w_9 hx_9 hg9
    simp only [Act.put, List.setIfInBounds_toArray, List.set]
    apply K.y_done
    intro w3 h3
    have hf3 := ((hx_2.1.trans hx_5.1).trans hx_9.1).trans h3.1
    have HX3 : K.Ext w w3 := K.Far.ext (HXV.out.drew) hf3 (Nat.le_refl _)
    have hb3 : w3.heap[w.heap.size]? = some (.cells #[.int .i64 1, .int .u8 (c.toNat : Int), .int .i64 y] 89) := h3.2.1 hg9
    have r0 : w3.cell? ⟨w.heap.size, 0, none⟩ = some (.int .i64 1) := K.cell_at hb3 rfl
    have r1 : w3.cell? ⟨w.heap.size, 1, none⟩ = some (.int .u8 (c.toNat : Int)) := K.cell_at hb3 rfl
    have r2 : w3.cell? ⟨w.heap.size, 2, none⟩ = some (.int .i64 y) := K.cell_at hb3 rfl
    go_wp2_with fail
    refine NoPanic.normal ?_
    go_wp2
    refine bodyPost_ret (v := .tuple #[.agg #[.int .i64 1, .int .u8 (c.toNat : Int), .int .i64 y], .bool q]) (by unfold results; rw [Tryz.results80]; go_simp) rfl ⟨by rw [HE.out], ?_⟩
    exact HX3
theorem readStep_any (p : List UInt8) (w : World) (hp : p.length ≤ 1048576) (hL : LV w) :
    Calls Tryz.prog 80 #[.string (Z.str p)] w fun e w' => e = .returned (.tuple #[.agg #[.int .i64 (Z.rdSt p).kd, .int .u8 (Z.rdSt p).nm, .int .i64 (Z.rdSt p).pw], .bool (Z.okSt p)]) ∧ K.Ext w w' := by
  have hs : (Z.str p).size ≤ 1048576 := by rw [Z.str_size]; exact hp
  unfold Z.okSt
  rcases p with _ | ⟨c, t⟩
  · exact readStep_none _ w hL (.inr (by decide)) rfl
  · rw [Z.rdSt_cons]
    by_cases h1 : c = 120 ∧ 1 < t.length
    · rw [if_pos h1]
      obtain ⟨rfl, ht⟩ := h1
      match t, ht with
      | a :: b :: r, _ => exact readStep_x _ a b r w hL hs rfl
    · rw [if_neg h1]
      by_cases h2 : c = 114
      · subst h2
        rw [if_pos rfl]
        exact readStep_r _ t w hL hs rfl
      · rw [if_neg h2]
        refine readStep_none _ w hL ?_ ?_
        · by_cases h3 : c = 120
          · right; rw [Z.str_size]; simp; have : ¬ 1 < t.length := fun h => h1 ⟨h3, h⟩; omega
          · left; rw [Z.str_bytes, Z.prefix_one]; simpa using fun h => h3 h.symm
        · rw [Z.str_bytes, Z.prefix_one]; simpa using fun h => h2 h.symm
end Go.Proofs.YtmgocfdhngeeiaaGreatDoor
end
section
namespace Go.Z
def UnitText (u : List Int) : ByteArray × Int := if isUnit u then (unitText u, 0) else (⟨#[]⟩, 1)
theorem unit_parts {u : List Int} (h : isUnit u = true) : u.length = 4 ∧ ∀ k, -1000000 ≤ u.getD k 0 ∧ u.getD k 0 ≤ 1000000 := by
  simp only [isUnit, Bool.and_eq_true, beq_iff_eq, List.all_eq_true] at h
  refine ⟨h.2, fun k => ?_⟩
  rcases Nat.lt_or_ge k u.length with hk | hk
  · have hm : u.getD k 0 ∈ u := by rw [List.getD_eq_getElem?_getD, List.getElem?_eq_getElem hk]; exact List.getElem_mem hk
    have := h.1 _ hm
    simp only [in9, Bool.and_eq_true, decide_eq_true_eq] at this
    omega
  · rw [List.getD_eq_getElem?_getD, List.getElem?_eq_none hk]; simp
end Go.Z
namespace Go.Proofs.YtmgocfdhngeeiaaGreatDoor
open Go.RowKit
end Go.Proofs.YtmgocfdhngeeiaaGreatDoor
end
section
namespace Go.Z
/-- the letters' indices that are not 0 -/
def uIdx (u : List Int) : Nat → List Nat
  | 0 => []
  | k + 1 => if u.getD k 0 == 0 then uIdx u k else uIdx u k ++ [k]
theorem uParts_idx (u : List Int) : ∀ k, uParts u k = (uIdx u k).map fun i => uPart i (u.getD i 0)
  | 0 => rfl
  | k + 1 => by
    unfold uParts uIdx
    split
    · exact uParts_idx u k
    · rw [uParts_idx u k, List.map_append, List.map_singleton]
theorem uIdx_mem (u : List Int) : ∀ k, ∀ i ∈ uIdx u k, i < k ∧ u.getD i 0 ≠ 0
  | 0, i, h => by cases h
  | k + 1, i, h => by
    unfold uIdx at h
    split at h
    · have := uIdx_mem u k i h; omega
    · rename_i hk
      rcases List.mem_append.1 h with h | h
      · have := uIdx_mem u k i h; omega
      · obtain rfl := List.mem_singleton.1 h
        exact ⟨by omega, fun e => hk (by rw [e]; rfl)⟩
def outL (v : List Int) (l : List Nat) : List Int := l.foldl (fun o i => o.set i (v.getD i 0)) [0, 0, 0, 0]
theorem outL_all {v : List Int} (h : v.length = 4) : outL v (uIdx v 4) = v := by
  match v, h with
  | [a, b, c, d], _ =>
    by_cases ha : a = 0 <;> by_cases hb : b = 0 <;> by_cases hc : c = 0 <;> by_cases hd : d = 0 <;> simp [uIdx, outL, ha, hb, hc, hd]
structure UnR (s : ByteArray) (u : List Int) (ok : Bool) : Prop where
  sound : ok = true → isUnit u = true ∧ unitText u = s
  zero : ok = false → u = []
  whole : ∀ v, isUnit v = true → unitText v = s → u = v ∧ ok = true
theorem UnR.same {s : ByteArray} {F G : List Int} {a b : Bool} (h : UnR s F a) (k : UnR s G b) : F = G ∧ a = b := by
  cases a <;> cases b
  · exact ⟨by rw [h.zero rfl, k.zero rfl], rfl⟩
  · obtain ⟨k1, k2⟩ := k.sound rfl
    have := (h.whole G k1 k2).2
    cases this
  · obtain ⟨k1, k2⟩ := h.sound rfl
    have := (k.whole F k1 k2).2
    cases this
  · obtain ⟨k1, k2⟩ := k.sound rfl
    exact ⟨(h.whole G k1 k2).1, rfl⟩
def RuI (s : ByteArray) (ps : List (List UInt8)) (k : Nat) (out : List Int) : Prop :=
  ∀ v, isUnit v = true → unitText v = s → uParts v 4 = ps ∧ out = outL v ((uIdx v 4).take k)
theorem base_not : ∀ {k : Nat}, k < 4 → (baseB k ≠ 46 ∧ baseB k ≠ 49)
  | 0, _ => by decide
  | 1, _ => by decide
  | 2, _ => by decide
  | 3, _ => by decide
theorem part_no46 {i : Nat} (n : Int) (h : i < 4) : (46 : UInt8) ∉ uPart i n := by
  unfold uPart
  intro hm
  rcases List.mem_cons.1 hm with hm | hm
  · exact (base_not h).1 hm.symm
  · split at hm
    · cases hm
    · exact itoa_no n (by decide) (by decide) hm
theorem parts_no46 (v : List Int) : ∀ p ∈ uParts v 4, (46 : UInt8) ∉ p := fun p hp => by
  rw [uParts_idx] at hp
  obtain ⟨i, hi, rfl⟩ := List.mem_map.1 hp
  exact part_no46 _ (uIdx_mem v 4 i hi).1
theorem ru_split {s : ByteArray} {v : List Int} (ht : unitText v = s) (hs : s ≠ ⟨#[49]⟩) : uParts v 4 = splitC 46 s.data.toList := by
  unfold unitText at ht
  split at ht
  · exact absurd ht.symm hs
  · rename_i hp
    rw [← ht, str_bytes, splitC_join hp (parts_no46 v)]
theorem RuI.start {s : ByteArray} (hs : s ≠ ⟨#[49]⟩) : RuI s (splitC 46 s.data.toList) 0 [0, 0, 0, 0] := fun v h ht => ⟨ru_split ht hs, rfl⟩
theorem RuI.one : RuI ⟨#[49]⟩ [] 0 [0, 0, 0, 0] := fun v h ht => by
  refine ⟨?_, rfl⟩
  unfold unitText at ht
  split at ht
  · rename_i hp; exact hp
  · rename_i hp
    have e : joinB 46 (uParts v 4) = [49] := str_inj (b := [49]) ht
    have e2 := splitC_join (c := 46) hp (parts_no46 v)
    rw [e] at e2
    have e3 : uParts v 4 = [[49]] := e2.symm
    rw [uParts_idx] at e3
    have hm : [(49 : UInt8)] ∈ (uIdx v 4).map fun i => uPart i (v.getD i 0) := by rw [e3]; simp
    obtain ⟨i, hi, hp2⟩ := List.mem_map.1 hm
    have hb := (base_not (uIdx_mem v 4 i hi).1).2
    unfold uPart at hp2
    exact absurd (List.cons.inj hp2).1 hb
theorem ru_at {s : ByteArray} {ps : List (List UInt8)} {k : Nat} {out : List Int} (hI : RuI s ps k out) {p : List UInt8} (hp : ps[k]? = some p) {v : List Int} (h : isUnit v = true) (ht : unitText v = s) :
    ∃ i, i < 4 ∧ v.getD i 0 ≠ 0 ∧ p = uPart i (v.getD i 0) ∧ (uIdx v 4)[k]? = some i ∧ out = outL v ((uIdx v 4).take k) := by
  obtain ⟨h1, h2⟩ := hI v h ht
  rw [← h1, uParts_idx, List.getElem?_map] at hp
  obtain ⟨i, hi, rfl⟩ := Option.map_eq_some_iff.1 hp
  have hm := uIdx_mem v 4 i (List.mem_of_getElem? hi)
  exact ⟨i, hm.1, hm.2, rfl, hi, h2⟩
def rdU (t : List UInt8) : Int × Bool := if t = [] then (1, true) else number (str t)
def rdUS (t : List UInt8) : Int := if t = [] then 1 else (signed t).1
theorem rd_uPart {i : Nat} {n : Int} (h0 : -1000000 ≤ n) (h1 : n ≤ 1000000) {c : UInt8} {t : List UInt8} (h : c :: t = uPart i n) : c = baseB i ∧ rdU t = (n, true) ∧ rdUS t = n := by
  unfold uPart at h
  obtain ⟨rfl, rfl⟩ := List.cons.inj h
  refine ⟨rfl, ?_⟩
  split
  · rename_i hn
    rw [beq_iff_eq.1 hn]
    exact ⟨rfl, rfl⟩
  · unfold rdU rdUS
    rw [if_neg (itoa_ne n), if_neg (itoa_ne n), signed_itoa (by omega) (by omega)]
    exact ⟨number_dec (by omega) (by omega), rfl⟩
/-- the letter's index, as the program finds it -/
def uIx (c : UInt8) : Int := Lib.indexByte [109, 103, 115, 65] c
theorem uIx_base : ∀ {i : Nat}, i < 4 → uIx (baseB i) = (i : Int)
  | 0, _ => by decide
  | 1, _ => by decide
  | 2, _ => by decide
  | 3, _ => by decide
theorem unit_bound {v : List Int} (h : isUnit v = true) (i : Nat) : -1000000 ≤ v.getD i 0 ∧ v.getD i 0 ≤ 1000000 := (unit_parts h).2 i
theorem UnR.good {s : ByteArray} {F : List Int} (h1 : isUnit F = true) (h2 : unitText F = s) (h : ∀ G, isUnit G = true → unitText G = s → F = G) : UnR s F true :=
  ⟨fun _ => ⟨h1, h2⟩, fun h => (by cases h), fun G a b => ⟨h G a b, rfl⟩⟩
theorem UnR.bad {s : ByteArray} (h : ∀ G, isUnit G = true → unitText G ≠ s) : UnR s [] false :=
  ⟨fun h => (by cases h), fun _ => rfl, fun G a b => absurd b (h G a)⟩
theorem RuI.empty {s : ByteArray} {ps : List (List UInt8)} {k : Nat} {out : List Int} (hI : RuI s ps k out) (hp : ps[k]? = some []) : UnR s [] false := UnR.bad fun v h ht => by
  obtain ⟨i, _, _, e, _⟩ := ru_at hI hp h ht
  unfold uPart at e
  cases e
theorem RuI.bad {s : ByteArray} {ps : List (List UInt8)} {k : Nat} {out : List Int} (hI : RuI s ps k out) {c : UInt8} {t : List UInt8} (hp : ps[k]? = some (c :: t)) (hb : uIx c < 0 ∨ (rdU t).2 = false) : UnR s [] false := UnR.bad fun v h ht => by
  obtain ⟨i, h4, _, e, _⟩ := ru_at hI hp h ht
  obtain ⟨rfl, e2, _⟩ := rd_uPart (unit_bound h i).1 (unit_bound h i).2 e
  rw [uIx_base h4, e2] at hb
  rcases hb with hb | hb
  · omega
  · cases hb
theorem ru_all {s : ByteArray} {ps : List (List UInt8)} {out : List Int} (hI : RuI s ps ps.length out) {v : List Int} (h : isUnit v = true) (ht : unitText v = s) : out = v := by
  obtain ⟨h1, h2⟩ := hI v h ht
  rw [← h1, uParts_idx, List.length_map, List.take_length, outL_all (unit_parts h).1] at h2
  exact h2
theorem RuI.done {s : ByteArray} {ps : List (List UInt8)} {out : List Int} (hI : RuI s ps ps.length out) (h1 : isUnit out = true) (h2 : unitText out = s) : UnR s out true := UnR.good h1 h2 fun v h ht => ru_all hI h ht
theorem RuI.none {s : ByteArray} {ps : List (List UInt8)} {out : List Int} (hI : RuI s ps ps.length out) (hb : isUnit out = false ∨ unitText out ≠ s) : UnR s [] false := UnR.bad fun v h ht => by
  rw [ru_all hI h ht] at hb
  rcases hb with hb | hb
  · rw [h] at hb; cases hb
  · exact hb ht
end Go.Z
end
section
namespace Go.K
open Go.RowKit
theorem row_shape {R : Rec Z.St} {w : World} {B : Nat} {e : TypeId} {v : Value} {k : Nat} {xs : List Z.St} (h : w.ownsRow B e R.n v k (R.cells xs)) (hR : 0 < R.n) (hk : xs.length = k) : ∃ o c, v = .slice o k c := by
  obtain ⟨o, c, hv, _⟩ := recs_of_row h hR
  exact ⟨o, c, by rw [← hk]; exact hv⟩
end Go.K
namespace Go.Proofs.YtmgocfdhngeeiaaGreatDoor
open Go.RowKit
set_option maxRecDepth 100000 in
set_option maxHeartbeats 6400000 in
theorem l21Read_no (s : ByteArray) (w : World) (hs : s.size ≤ 1048576) (h0 : s ≠ ⟨#[119]⟩) (h1 : s.size ≤ 2 ∨ ∀ h : 0 < s.size, s[0]'h ≠ 120) (h2 : s.size ≤ 1 ∨ ∀ h : 0 < s.size, s[0]'h ≠ 114) :
    Calls Tryz.prog 81 #[.string s] w fun e w' => e = .returned (.agg #[.int .i64 (-1), .int .u8 0, .int .i64 0]) ∧ K.Ext w w' := by
  have hb := K.str_beq s ⟨#[119]⟩
  rw [decide_eq_false h0, show (⟨#[119]⟩ : ByteArray).toList = [119] by rw [Z.toList_data]] at hb
  clear h0
  by_cases hz : 0 < s.size
  · obtain ⟨c, e0⟩ : ∃ c, s[0]'hz = c := ⟨_, rfl⟩
    have i0 : (0 : Int) < (s.size : Int) := by omega
    have k1 : s.size ≤ 2 ∨ ((c.toNat : Int) == 120) = false := h1.imp id fun h => by
      have h := h hz
      rw [e0] at h
      exact beq_eq_false_iff_ne.2 fun e => h (UInt8.toNat_inj.1 (by simp; omega))
    have k2 : s.size ≤ 1 ∨ ((c.toNat : Int) == 114) = false := h2.imp id fun h => by
      have h := h hz
      rw [e0] at h
      exact beq_eq_false_iff_ne.2 fun e => h (UInt8.toNat_inj.1 (by simp; omega))
    clear h1 h2
    by_cases z2 : s.size ≤ 2
    · have i2 : ¬ ((2 : Int) < (s.size : Int)) := by omega
      by_cases z1 : s.size ≤ 1
      · have i1 : ¬ ((1 : Int) < (s.size : Int)) := by omega
        go_enter Tryz.func81, Tryz.ntmps81
        go_wp2
        refine bodyPost_ret (v := .agg #[.int .i64 (-1), .int .u8 0, .int .i64 0]) (by unfold results; rw [Tryz.results81]; go_simp) rfl ⟨rfl, ?_⟩
        exact K.bel
      · have i1 : (1 : Int) < (s.size : Int) := by omega
        have k2 := k2.resolve_left z1
        have k2' : ¬ (c.toNat : Int) = 114 := by simpa using k2
        go_enter Tryz.func81, Tryz.ntmps81
        go_wp2
        refine bodyPost_ret (v := .agg #[.int .i64 (-1), .int .u8 0, .int .i64 0]) (by unfold results; rw [Tryz.results81]; go_simp) rfl ⟨rfl, ?_⟩
        exact K.bel
    · have i2 : (2 : Int) < (s.size : Int) := by omega
      have i1 : (1 : Int) < (s.size : Int) := by omega
      have k1 := k1.resolve_left z2
      have k1' : ¬ (c.toNat : Int) = 120 := by simpa using k1
      have k2 := k2.resolve_left (by omega)
      have k2' : ¬ (c.toNat : Int) = 114 := by simpa using k2
      go_enter Tryz.func81, Tryz.ntmps81
      go_wp2
      refine bodyPost_ret (v := .agg #[.int .i64 (-1), .int .u8 0, .int .i64 0]) (by unfold results; rw [Tryz.results81]; go_simp) rfl ⟨rfl, ?_⟩
      exact K.bel
  · have i2 : ¬ ((2 : Int) < (s.size : Int)) := by omega
    have i1 : ¬ ((1 : Int) < (s.size : Int)) := by omega
    clear h1 h2
    go_enter Tryz.func81, Tryz.ntmps81
    go_wp2
    refine bodyPost_ret (v := .agg #[.int .i64 (-1), .int .u8 0, .int .i64 0]) (by unfold results; rw [Tryz.results81]; go_simp) rfl ⟨rfl, ?_⟩
    exact K.bel
set_option maxRecDepth 100000 in
set_option maxHeartbeats 6400000 in
theorem l21Read_w (w : World) :
    Calls Tryz.prog 81 #[.string ⟨#[119]⟩] w fun e w' => e = .returned (.agg #[.int .i64 0, .int .u8 0, .int .i64 0]) ∧ K.Ext w w' := by
  go_enter Tryz.func81, Tryz.ntmps81
  go_wp2
  refine bodyPost_ret (v := .agg #[.int .i64 0, .int .u8 0, .int .i64 0]) (by unfold results; rw [Tryz.results81]; go_simp) rfl ⟨rfl, ?_⟩
  exact K.bel
set_option maxRecDepth 100000 in
set_option maxHeartbeats 6400000 in
theorem l21Read_x (s : ByteArray) (c d : UInt8) (t : List UInt8) (w : World) (hs : s.size ≤ 1048576) (h0 : s = Z.str (120 :: c :: d :: t)) :
    Calls Tryz.prog 81 #[.string s] w fun e w' => e = .returned (.agg #[.int .i64 1, .int .u8 (c.toNat : Int), .int .i64 (Z.signed (d :: t)).1]) ∧ K.Ext w w' := by
  have hb := K.str_beq s ⟨#[119]⟩
  rw [decide_eq_false (fun e => by have e2 := h0.symm.trans e; have := Z.str_inj (b := [119]) e2; cases this), show (⟨#[119]⟩ : ByteArray).toList = [119] by rw [Z.toList_data]] at hb
  have HN := fun w' => l01Signed_any (Z.str (d :: t)) w'
  rw [Z.str_bytes] at HN
  generalize Z.signed (d :: t) = N at *
  obtain ⟨y, by_⟩ := N
  dsimp only at HN ⊢
  have es : s.size = t.length + 3 := by rw [h0, Z.str_size]; rfl
  have e2 : s.extract 2 s.size = Z.str (d :: t) := by rw [h0, ← Z.str_list ((Z.str (120 :: c :: d :: t)).extract 2 (Z.str (120 :: c :: d :: t)).size), Z.extract_bytes, Z.str_bytes, Z.str_size, List.take_length]; rfl
  have l0 : 0 < s.size := by omega
  have l1 : 1 < s.size := by omega
  have e0 : s[0]'l0 = 120 := by subst h0; rfl
  have e1 : s[1]'l1 = c := by subst h0; rfl
  have i0 : (0 : Int) < (s.size : Int) := by omega
  have i1 : (1 : Int) < (s.size : Int) := by omega
  have i2 : (2 : Int) < (s.size : Int) := by omega
  have i3 : (2 : Int) ≤ (s.size : Int) := by omega
  generalize Z.str (d :: t) = ST at *
  clear h0 es
  go_enter Tryz.func81, Tryz.ntmps81
  go_wp2_with fail
  refine K.call (by with_reducible rfl) (by with_reducible rfl) (HN _) ?_
  rintro e w2 ⟨rfl, f2⟩
  have b2 := f2.block (K.block_new rfl)
  have x2 : K.Ext w w2 := K.Ext.trans K.bel f2
  obtain ⟨⟨q0, q1, q2⟩, ⟨t0, t1, t2⟩, l4⟩ := K.box3 b2
  clear f2 b2
  go_wp2
  refine bodyPost_ret (v := .agg #[.int .i64 1, .int .u8 (c.toNat : Int), .int .i64 y]) (by unfold results; rw [Tryz.results81]; go_simp) rfl ⟨rfl, ?_⟩
  exact K.bel
set_option maxRecDepth 100000 in
set_option maxHeartbeats 6400000 in
theorem l21Read_r (s : ByteArray) (d : UInt8) (t : List UInt8) (w : World) (hs : s.size ≤ 1048576) (h0 : s = Z.str (114 :: d :: t)) :
    Calls Tryz.prog 81 #[.string s] w fun e w' => e = .returned (.agg #[.int .i64 2, .int .u8 0, .int .i64 (Z.signed (d :: t)).1]) ∧ K.Ext w w' := by
  have hb := K.str_beq s ⟨#[119]⟩
  rw [decide_eq_false (fun e => by have e2 := h0.symm.trans e; have := Z.str_inj (b := [119]) e2; cases this), show (⟨#[119]⟩ : ByteArray).toList = [119] by rw [Z.toList_data]] at hb
  have HN := fun w' => l01Signed_any (Z.str (d :: t)) w'
  rw [Z.str_bytes] at HN
  generalize Z.signed (d :: t) = N at *
  obtain ⟨y, by_⟩ := N
  dsimp only at HN ⊢
  have es : s.size = t.length + 2 := by rw [h0, Z.str_size]; rfl
  have e2 : s.extract 1 s.size = Z.str (d :: t) := by rw [h0, ← Z.str_list ((Z.str (114 :: d :: t)).extract 1 (Z.str (114 :: d :: t)).size), Z.extract_bytes, Z.str_bytes, Z.str_size, List.take_length]; rfl
  have l0 : 0 < s.size := by omega
  have e0 : s[0]'l0 = 114 := by subst h0; rfl
  have i0 : (0 : Int) < (s.size : Int) := by omega
  have i1 : (1 : Int) < (s.size : Int) := by omega
  have i3 : (1 : Int) ≤ (s.size : Int) := by omega
  generalize Z.str (d :: t) = ST at *
  clear h0 es
  by_cases z2 : (2 : Int) < (s.size : Int)
  all_goals
    go_enter Tryz.func81, Tryz.ntmps81
    go_wp2_with fail
    refine K.call (by with_reducible rfl) (by with_reducible rfl) (HN _) ?_
    rintro e w2 ⟨rfl, f2⟩
    have b2 := f2.block (K.block_new rfl)
    have x2 : K.Ext w w2 := K.Ext.trans K.bel f2
    obtain ⟨⟨q0, q1, q2⟩, ⟨t0, t1, t2⟩, l4⟩ := K.box3 b2
    clear f2 b2
    go_wp2
    refine bodyPost_ret (v := .agg #[.int .i64 2, .int .u8 0, .int .i64 y]) (by unfold results; rw [Tryz.results81]; go_simp) rfl ⟨rfl, ?_⟩
    exact K.bel
theorem l21Read_any (p : List UInt8) (w : World) (hp : p.length ≤ 1048576) :
    Calls Tryz.prog 81 #[.string (Z.str p)] w fun e w' => e = .returned (.agg #[.int .i64 (Z.rdStS p).kd, .int .u8 (Z.rdStS p).nm, .int .i64 (Z.rdStS p).pw]) ∧ K.Ext w w' := by
  have hs : (Z.str p).size ≤ 1048576 := by rw [Z.str_size]; exact hp
  rcases p with _ | ⟨c, t⟩
  · exact l21Read_no _ w hs (fun e => by have := Z.str_inj (b := [119]) e; cases this) (.inl (by decide)) (.inl (by decide))
  · rw [Z.rdStS_cons]
    by_cases hw : c = 119 ∧ t = []
    · rw [if_pos hw]
      obtain ⟨rfl, rfl⟩ := hw
      exact l21Read_w w
    · rw [if_neg hw]
      by_cases h1 : c = 120 ∧ 1 < t.length
      · rw [if_pos h1]
        obtain ⟨rfl, ht⟩ := h1
        match t, ht with
        | a :: b :: r, _ => exact l21Read_x _ a b r w hs rfl
      · rw [if_neg h1]
        by_cases h2 : c = 114 ∧ 0 < t.length
        · rw [if_pos h2]
          obtain ⟨rfl, ht⟩ := h2
          match t, ht with
          | b :: r, _ => exact l21Read_r _ b r w hs rfl
        · rw [if_neg h2]
          refine l21Read_no _ w hs (fun e => ?_) ?_ ?_
          · have := Z.str_inj (b := [119]) e
            simp at this
            exact hw this
          · by_cases h3 : c = 120
            · left; rw [Z.str_size]; simp; have : ¬ 1 < t.length := fun h => h1 ⟨h3, h⟩; omega
            · right; intro h; exact h3
          · by_cases h3 : c = 114
            · left; rw [Z.str_size]; simp; have : ¬ 0 < t.length := fun h => h2 ⟨h3, h⟩; exact List.eq_nil_of_length_eq_zero (by omega)
            · right; intro h; exact h3
set_option maxRecDepth 100000 in
set_option maxHeartbeats 12800000 in
theorem spec_ReadStepsR (s : ByteArray) (w : World) (hs : s.size ≤ 1048576) :
    Calls Tryz.prog 27 #[.string s] w fun e w' => (∃ (L : List Z.St) (ok : Bool) (p : Value), e = .returned (.tuple #[p, .int .i64 (Z.okCode ok)]) ∧ Z.SsR s L ok ∧ K.recs false K.StR w' w.heap.size w'.heap.size p L) ∧ K.Ext w w' := by
  by_cases h0 : s = ⟨#[]⟩
  · subst h0
    go_enter Tryz.func27, Tryz.ntmps27
    go_wp2
    go_ret2
    exact ⟨⟨[], true, _, rfl, Z.ss_empty, ⟨_, 0, rfl, fun h => absurd rfl h⟩⟩, K.bel⟩
  have hb1 := K.str_beq s ⟨#[]⟩
  rw [decide_eq_false h0, show (⟨#[]⟩ : ByteArray).toList = [] by rw [Z.toList_data]] at hb1
  have hb1' : s.toList.isEmpty = false := by simpa using hb1
  obtain ⟨it0, hi0, hz0, hz1, hz2⟩ := info_parts info_step
  obtain ⟨ps, hps⟩ : ∃ ps, ps = Z.splitC 32 s.data.toList := ⟨_, rfl⟩
  have HPS := Z.hide hps
  have H0 := Z.hide h0
  obtain ⟨m, hm⟩ : ∃ m, m = ps.length := ⟨_, rfl⟩
  have HM := Z.hide hm
  have hl0 := Z.bytes_length s
  have hms : m ≤ s.size + 1 := by have := Z.splitC_len 32 s.data.toList; rw [← hps, ← hm] at this; omega
  have hm0 : 0 < m := by rw [hm, hps]; exact List.length_pos_iff.2 (Z.splitC_ne 32 s.data.toList)
  have HPL : Hid (∀ p ∈ ps, p.length ≤ 1048576) := Z.hide (fun p hp => by have := Z.splitC_mem_len 32 s.data.toList p (by rw [← hps]; exact hp); omega)
  have HS : ∀ w', Calls Tryz.prog 47 #[.string s, .int .u8 32] w' fun e w'' => (∃ b cap, e = .returned (.slice (some ⟨b, 0, none⟩) m cap) ∧ w'.heap.size ≤ b ∧ (∀ j p, ps[j]? = some p → w''.cell? ⟨b, j, none⟩ = some (.string (Z.str p)))) ∧ K.Ext w' w'' := fun w' => (l01Split_any s 32 w' hs).mono fun e w'' ⟨⟨v, he, ho⟩, hw⟩ => ⟨by
      rw [← hps, ← hm] at ho
      obtain ⟨b, cap, rfl, hb, _⟩ := ho.form hm0
      refine ⟨b, cap, he, hb, fun j p hj => ?_⟩
      obtain ⟨hj', rfl⟩ := List.getElem?_eq_some_iff.1 hj
      have := ho.cellAt j (by omega)
      rw [this]
      simp [strVals, hj'], hw⟩
  clear hps hm hl0 h0
  go_enter Tryz.func27, Tryz.ntmps27
  go_wp2_with fail
  refine K.call (by with_reducible rfl) (by with_reducible rfl) (HS _) ?_
  rintro e w1 ⟨⟨b, cap, rfl, hb, hcs⟩, f1⟩
  have HCS := Z.hide hcs
  have HF1 := Z.hide f1
  have ls1 := f1.size
  clear hcs HS f1
  go_wp2
  go_loopw [5, 6] (fun out i wr => ∃ k : Nat, k ≤ m ∧ i = .int .i64 k ∧ Hid (wr.ownsRow w1.heap.size 89 3 out k (K.StR.cells ((ps.take k).map Z.rdStS))) ∧ Hid (K.Ext w1 wr)) (fun _ i _ => m - (intOf i).toNat)
  case atStart => exact ⟨0, Nat.zero_le _, rfl, Z.hide (K.row_lit3 rfl (by omega)), Z.hide ((K.Ext.refl _).alloc _)⟩
  case round =>
    obtain ⟨k, hk, rfl, HO, HX⟩ := hrel
    have lw := HX.out.size
    by_cases hlt : k < m
    · have hkp : k < ps.length := by rw [← HM.out]; exact hlt
      obtain ⟨p, hp⟩ : ∃ p, p = ps[k]'hkp := ⟨_, rfl⟩
      have hpk : ps[k]? = some p := by rw [hp]; exact List.getElem?_eq_getElem hkp
      have HN1 := Z.hide (Z.map_take_snoc (f := Z.rdStS) hpk)
      have hpl := HPL.out p (List.mem_of_getElem? hpk)
      have hck : wr.cell? ⟨b, k, none⟩ = some (.string (Z.str p)) := HX.out.cell_of (HCS.out k p hpk)
      have k0 : (0 : Int) ≤ (k : Int) := Int.natCast_nonneg k
      have k1 : (k : Int) < (m : Int) := by omega
      have HR : ∀ w', Calls Tryz.prog 81 #[.string (Z.str p)] w' fun e w'' => e = .returned (.agg #[.int .i64 (Z.rdStS p).kd, .int .u8 (Z.rdStS p).nm, .int .i64 (Z.rdStS p).pw]) ∧ K.Ext w' w'' := fun w' => l21Read_any p w' hpl
      generalize Z.str p = SP at hck HR
      obtain ⟨x, hx⟩ : ∃ x, x = Z.rdStS p := ⟨_, rfl⟩
      rw [← hx] at HR HN1
      clear hx hp hpk
      obtain ⟨kd, nm, pw⟩ := x
      dsimp only at HR
      go_wp2_with (first | (go_at_call 81; refine K.call (by with_reducible rfl) (by with_reducible rfl) (HR _) ?_; rintro e w2 ⟨rfl, f2⟩; have l2 := f2.size; clear HR) | (at_builtin; refine wpList_append_lies _ rfl _ _ _ rfl (w1.heap.size) 89 it0 _ 3 24 Tryz.underlying47 hi0 hz0 hz1 hz2 rfl (by omega) u5 k _ rfl ((K.row_ext HO.out f2).alloc _) ⟨w2.heap.size, 0, none⟩ 1 1 [.int .i64 kd, .int .u8 nm, .int .i64 pw] rfl rfl (World.news_of_block (cs := #[.int .i64 kd, .int .u8 nm, .int .i64 pw]) (t := 89) (fr := (0, 0)) (K.block_new (by simp))) (by simp [Value.oneCell']) (by omega) (by unfold maxLen; omega) (by omega) (by simp; omega) (w2.heap.size + 1) (by simp) ?_; intro g2 gcap2 w3 hown2 hgrow2 hat2 hlt3; have HP2 := Z.hide hown2; have HX2 : Hid (K.Ext w1 w3) := Z.hide ((((HX.out.trans f2).alloc _).below.grown hgrow2 (by simp; omega) (fun g hg => (HO.out.lt g hg).1))); clear hown2 hgrow2 hat2))
      go_roundw
      case rel => exact ⟨k + 1, by omega, by go_num, Z.hide (by have h_ := HP2.out; rw [HN1.out, K.Rec.cells_snoc]; exact h_), HX2⟩
      case measure => first | (simp [intOf]; done) | (simp [intOf]; omega)
    · obtain rfl : k = m := by omega
      have HL : Hid (ps.take k = ps) := Z.hide (by rw [HM.out]; exact List.take_length)
      rw [HL.out] at HO
      obtain ⟨L, hL⟩ : ∃ L, L = ps.map Z.rdStS := ⟨_, rfl⟩
      have HLL := Z.hide hL
      have hLl : L.length = k := by rw [hL, List.length_map]; exact HM.out.symm
      have h12 : L.length ≤ 2097152 := by omega
      rw [← hL] at HO
      obtain ⟨o5, c5, rfl⟩ := K.row_shape HO.out (by decide) hLl
      have HRC : Hid (K.recs true K.StR wr w1.heap.size wr.heap.size (.slice o5 k c5) L) := Z.hide (K.recs_of_row (e := 89) (n := L.length) (by rw [hLl]; exact HO.out) (by decide))
      have HC := l21Code_big L wr h12 (K.recs.plain HRC.out)
      by_cases hc : Z.stCode L = 0
      · have HT := fun w' (hx : K.Ext wr w') => l21Text_any L w' (Z.code_valid hc) (by have := Z.code_len hc; omega) ((K.recs.plain HRC.out).ext hx)
        have HCC := Z.hide hc
        rw [hc] at HC
        obtain ⟨D, hD⟩ : ∃ D, D = Z.stepsText L := ⟨_, rfl⟩
        have HD := Z.hide hD
        rw [← hD] at HT
        have hbq := K.str_beq D s
        clear hc hD hL HO
        go_wp2_with fail
        refine K.call (by with_reducible rfl) (by with_reducible rfl) HC ?_
        rintro e w3 ⟨rfl, f3⟩
        go_wp2_with fail
        refine K.call (by with_reducible rfl) (by with_reducible rfl) (HT _ f3) ?_
        rintro e w4 ⟨rfl, f4⟩
        have HXE : Hid (K.Ext w w4) := Z.hide ((HF1.out.trans HX.out).trans (f3.trans f4))
        by_cases heq : D = s
        · rw [decide_eq_true heq] at hbq
          have HR : Hid (Z.SsR s L true) := Z.hide (by rw [HLL.out]; exact Z.ss_doneS HPS.out H0.out (by rw [← HLL.out]; exact HCC.out) (by rw [← HLL.out, ← HD.out]; exact heq))
          clear heq
          go_wp2
          go_ret2
          exact ⟨⟨L, true, _, rfl, HR.out, K.recs.mono ((K.recs.plain HRC.out).ext (f3.trans f4)) ls1 ((f3.trans f4).size)⟩, HXE.out⟩
        · rw [decide_eq_false heq] at hbq
          have HR : Hid (Z.SsR s [] false) := Z.hide (Z.ss_noneS HPS.out H0.out (.inr (by rw [← HLL.out, ← HD.out]; exact heq)))
          clear heq
          go_wp2
          go_ret2
          exact ⟨⟨[], false, _, rfl, HR.out, K.recs_nil _ _ _⟩, HXE.out⟩
      · have HR : Hid (Z.SsR s [] false) := Z.hide (Z.ss_noneS HPS.out H0.out (.inl (by rw [← HLL.out]; exact hc)))
        have hc' : (Z.stCode L == 0) = false := by simpa using hc
        generalize Z.stCode L = C at *
        clear hL HO
        go_wp2_with fail
        refine K.call (by with_reducible rfl) (by with_reducible rfl) HC ?_
        rintro e w3 ⟨rfl, f3⟩
        go_wp2
        go_ret2
        exact ⟨⟨[], false, _, rfl, HR.out, K.recs_nil _ _ _⟩, (HF1.out.trans HX.out).trans f3⟩
set_option maxRecDepth 100000 in
set_option maxHeartbeats 12800000 in
theorem impl_ReadStepsR (s : ByteArray) (w : World) (hs : s.size ≤ 1048576) (hL : LV w) :
    Calls Tryz.prog 26 #[.string s] w fun e w' => (∃ (L : List Z.St) (ok : Bool) (p : Value), e = .returned (.tuple #[p, .int .i64 (Z.okCode ok)]) ∧ Z.SsR s L ok ∧ K.recs true K.StR w' w.heap.size w'.heap.size p L) ∧ K.Ext w w' := by
  by_cases h0 : s = ⟨#[]⟩
  · subst h0
    clear hL
    go_enter Tryz.func26, Tryz.ntmps26
    go_wp2
    go_ret2
    exact ⟨⟨[], true, _, rfl, Z.ss_empty, K.recs_nil _ _ _⟩, K.bel⟩
  have hb1 := K.str_beq s ⟨#[]⟩
  rw [decide_eq_false h0, show (⟨#[]⟩ : ByteArray).toList = [] by rw [Z.toList_data]] at hb1
  have hb1' : s.toList.isEmpty = false := by simpa using hb1
  obtain ⟨it0, hi0, hz0, hz1, hz2⟩ := info_parts info_step
  have HLV := Z.hide hL
  obtain ⟨ps, hps⟩ : ∃ ps, ps = Z.splitC 32 s.data.toList := ⟨_, rfl⟩
  have HPS := Z.hide hps
  have H0 := Z.hide h0
  obtain ⟨m, hm⟩ : ∃ m, m = ps.length := ⟨_, rfl⟩
  have HM := Z.hide hm
  have hl0 := Z.bytes_length s
  have hms : m ≤ s.size + 1 := by have := Z.splitC_len 32 s.data.toList; rw [← hps, ← hm] at this; omega
  have hm0 : 0 < m := by rw [hm, hps]; exact List.length_pos_iff.2 (Z.splitC_ne 32 s.data.toList)
  have HPL : Hid (∀ p ∈ ps, p.length ≤ 1048576) := Z.hide (fun p hp => by have := Z.splitC_mem_len 32 s.data.toList p (by rw [← hps]; exact hp); omega)
  have HS : ∀ w', LV w' → Calls Tryz.prog 43 #[.string s, .string ⟨#[32]⟩] w' fun e w'' => (∃ b cap, e = .returned (.slice (some ⟨b, 0, none⟩) m cap) ∧ m ≤ cap ∧ w'.heap.size ≤ b ∧ (∀ j p, ps[j]? = some p → w''.cell? ⟨b, j, none⟩ = some (.string (Z.str p)))) ∧ K.Ext w' w'' := fun w' hL' => (split_any s 32 w' hs hL').mono fun e w'' ⟨⟨b, cap, he, hc, hb, hx⟩, hw⟩ => ⟨⟨b, cap, by rw [he, hm, hps], by rw [hm, hps]; exact hc, hb, fun j p hj => by
      subst hps
      obtain ⟨hj', rfl⟩ := List.getElem?_eq_some_iff.1 hj
      exact hx j hj'⟩, hw⟩
  clear hps hm hl0 h0 hL
  go_enter Tryz.func26, Tryz.ntmps26
  go_wp2_with fail
  refine K.call (by with_reducible rfl) (by with_reducible rfl) (HS _ (HLV.out.ext K.bel)) ?_
  rintro e w2 ⟨⟨b, cap, rfl, hcap, hb, hcs⟩, f1⟩
  have HCS := Z.hide hcs
  have ls1 := f1.size
  have HO0 := Z.hide (K.row_ext (K.row_lit3 (w := w) (e := 89) rfl (Nat.le_refl _)) f1)
  have HF1 := Z.hide (((K.Ext.refl w).alloc _).trans f1)
  clear hcs HS f1
  simp only [World.size_alloc] at ls1 hb
  have HBB : Hid (w.heap.size < b ∧ b < w2.heap.size) := Z.hide ⟨by omega, by
    obtain ⟨p, hp⟩ : ∃ p, ps[0]? = some p := ⟨ps[0]'(by rw [← HM.out]; exact hm0), List.getElem?_eq_getElem _⟩
    exact World.block_lt_of_cell? w2 _ (HCS.out 0 p hp)⟩
  have LS := Z.hide ls1
  go_wp2
  go_loopw [4, 15] (fun out i wr => ∃ k : Nat, k ≤ m ∧ k ≤ 12 ∧ i = .int .i64 k ∧ Hid (wr.ownsRow w.heap.size 89 3 out k (K.StR.cells ((ps.take k).map Z.rdSt))) ∧ Hid (K.Ext w wr) ∧ Hid (∀ q ∈ ps.take k, Z.okSt q = true) ∧ Hid (∀ g, out.ownBlock = some g → g = w.heap.size ∨ w2.heap.size ≤ g) ∧ Hid (w2.heap.size ≤ wr.heap.size) ∧ Hid (∀ j p, ps[j]? = some p → wr.cell? ⟨b, j, none⟩ = some (.string (Z.str p)))) (fun _ i _ => m - (intOf i).toNat)
  case atStart => exact ⟨0, Nat.zero_le _, by omega, rfl, HO0, HF1, Z.hide (by simp), Z.hide (fun g hg => .inl (by simp [Value.ownBlock] at hg; exact hg.symm)), Z.hide (Nat.le_refl _), HCS⟩
  case round =>
    obtain ⟨k, hk, hk12, rfl, HO, HX, HOK, HB, HZ, HW⟩ := hrel
    have lw := HX.out.size
    have lz := HZ.out
    obtain ⟨o4, c4, rfl⟩ := K.row_shape HO.out (by decide) (by rw [List.length_map, List.length_take, ← HM.out]; omega)
    by_cases hlt : k < m
    · have hkp : k < ps.length := by rw [← HM.out]; exact hlt
      obtain ⟨p, hp⟩ : ∃ p, p = ps[k]'hkp := ⟨_, rfl⟩
      have hpk : ps[k]? = some p := by rw [hp]; exact List.getElem?_eq_getElem hkp
      have HPK := Z.hide hpk
      have HN1 := Z.hide (Z.map_take_snoc (f := Z.rdSt) hpk)
      have hpl := HPL.out p (List.mem_of_getElem? hpk)
      have hck : wr.cell? ⟨b, k, none⟩ = some (.string (Z.str p)) := HW.out k p hpk
      have k0 : (0 : Int) ≤ (k : Int) := Int.natCast_nonneg k
      have k1 : (k : Int) < (m : Int) := by omega
      have HR : ∀ w', K.Ext w w' → Calls Tryz.prog 80 #[.string (Z.str p)] w' fun e w'' => e = .returned (.tuple #[.agg #[.int .i64 (Z.rdSt p).kd, .int .u8 (Z.rdSt p).nm, .int .i64 (Z.rdSt p).pw], .bool (Z.okSt p)]) ∧ K.Ext w' w'' := fun w' hx => readStep_any p w' hpl (HLV.out.ext hx)
      generalize Z.str p = SP at hck HR
      obtain ⟨x, hx⟩ : ∃ x, x = Z.rdSt p := ⟨_, rfl⟩
      obtain ⟨q, hq⟩ : ∃ q, q = Z.okSt p := ⟨_, rfl⟩
      have HQ := Z.hide hq
      rw [← hx] at HR HN1
      rw [← hq] at HR
      clear hx hp hpk hq
      obtain ⟨kd, nm, pw⟩ := x
      dsimp only at HR
      cases q
      · have HS : Hid (Z.SsR s [] false) := Z.hide (Z.ss_bad HPS.out H0.out HPK.out HQ.out.symm)
        go_wp2_with (go_at_call 80; refine K.call (by with_reducible rfl) (by with_reducible rfl) (HR _ HX.out) ?_; rintro e w3 ⟨rfl, f3⟩; have l3 := f3.size; clear HR)
        go_ret2
        exact ⟨⟨[], false, _, rfl, HS.out, K.recs_nil _ _ _⟩, (HX.out.trans f3).alloc _⟩
      · by_cases h12 : k = 12
        · have HS : Hid (Z.SsR s [] false) := Z.hide (Z.ss_long HPS.out H0.out (by rw [← HM.out]; omega))
          subst h12
          go_wp2_with (go_at_call 80; refine K.call (by with_reducible rfl) (by with_reducible rfl) (HR _ HX.out) ?_; rintro e w3 ⟨rfl, f3⟩; have l3 := f3.size; clear HR)
          go_ret2
          exact ⟨⟨[], false, _, rfl, HS.out, K.recs_nil _ _ _⟩, (HX.out.trans f3).alloc _⟩
        · have h12' : ((k : Int) == 12) = false := by rw [beq_eq_false_iff_ne]; omega
          have h12'' : ¬ (k : Int) = 12 := by omega
          have HOK2 := Z.hide (Z.ok_take_snoc HPK.out HOK.out HQ.out.symm)
          go_wp2_with (first | (go_at_call 80; refine K.call (by with_reducible rfl) (by with_reducible rfl) (HR _ HX.out) ?_; rintro e w3 ⟨rfl, f3⟩; have l3 := f3.size; clear HR) | (at_builtin; refine wpList_append_lies _ rfl _ _ _ rfl (w.heap.size) 89 it0 _ 3 24 Tryz.underlying47 hi0 hz0 hz1 hz2 rfl (by omega) (.slice o4 k c4) k _ rfl (((K.row_ext HO.out f3).alloc _).alloc _) ⟨w3.heap.size + 1, 0, none⟩ 1 1 [.int .i64 kd, .int .u8 nm, .int .i64 pw] rfl rfl (World.news_of_block (cs := #[.int .i64 kd, .int .u8 nm, .int .i64 pw]) (t := 89) (fr := (0, 0)) (K.block_new (by simp))) (by simp [Value.oneCell']) (by omega) (by unfold maxLen; omega) (by omega) (by simp; omega) (w3.heap.size + 1 + 1) (by simp) ?_; intro g2 gcap2 w4 hown2 hgrow2 hat2 hlt3; have HP2 := Z.hide hown2; have HX2 : Hid (K.Ext w w4) := Z.hide (((((HX.out.trans f3).alloc _).alloc _).below.grown hgrow2 (by simp; omega) (fun g hg => (HO.out.lt g hg).1))); have HB2 : Hid (∀ g, (Value.slice (some ⟨g2, 0, none⟩) (k + 1) gcap2).ownBlock = some g → g = w.heap.size ∨ w2.heap.size ≤ g) := Z.hide (fun g hg => by simp [Value.ownBlock] at hg; subst hg; rcases hat2 with h | h; exact HB.out _ h; right; omega); have HZ2 : Hid (w2.heap.size ≤ w4.heap.size) := Z.hide (by have := hgrow2.size; simp at this; omega); have HW2 : Hid (∀ j p, ps[j]? = some p → w4.cell? ⟨b, j, none⟩ = some (.string (Z.str p))) := Z.hide (fun j p hj => by rw [World.cell?_of_block (hgrow2.block b (by have := HBB.out.2; simp; omega) (fun e => by have := HBB.out; have := HB.out _ e.symm; omega))]; exact ((((K.Ext.refl w3).alloc _).alloc _).cell_of (f3.cell_of (HW.out j p hj)))); clear hown2 hgrow2 hat2))
          go_roundw
          case rel => exact ⟨k + 1, by omega, by omega, by go_num, Z.hide (by have h_ := HP2.out; rw [HN1.out, K.Rec.cells_snoc]; exact h_), HX2, HOK2, HB2, HZ2, HW2⟩
          case measure => first | (simp [intOf]; done) | (simp [intOf]; omega)
    · obtain rfl : k = m := by omega
      have HL : Hid (ps.take k = ps) := Z.hide (by rw [HM.out]; exact List.take_length)
      rw [HL.out] at HO HOK
      have HS : Hid (Z.SsR s (ps.map Z.rdSt) true) := Z.hide (Z.ss_done HPS.out H0.out (by rw [← HM.out]; omega) HOK.out)
      have HRC : Hid (K.recs true K.StR wr w.heap.size wr.heap.size (.slice o4 k c4) (ps.map Z.rdSt)) := Z.hide (K.recs_of_row (by have h_ := HO.out; exact h_) (by decide))
      clear HO
      go_wp2
      go_ret2
      exact ⟨⟨_, true, _, rfl, HS.out, HRC.out⟩, HX.out⟩
end Go.Proofs.YtmgocfdhngeeiaaGreatDoor
end
section
namespace Go.Z
open Classical in
noncomputable def ReadSteps (s : ByteArray) : List St × Int := if h : ∃ x : List St × Bool, SsR s x.1 x.2 then (h.choose.1, okCode h.choose.2) else ([], 6)
theorem ReadSteps_is {s : ByteArray} {F : List St} {ok : Bool} (h : SsR s F ok) : ReadSteps s = (F, okCode ok) := by
  have hx : ∃ x : List St × Bool, SsR s x.1 x.2 := ⟨(F, ok), h⟩
  unfold ReadSteps
  rw [dif_pos hx]
  obtain ⟨e1, e2⟩ := SsR.same hx.choose_spec h
  rw [e1, e2]
theorem ReadSteps_le (s : ByteArray) : (ReadSteps s).1.length ≤ 1048576 := by
  by_cases hx : ∃ x : List St × Bool, SsR s x.1 x.2
  · obtain ⟨⟨F, ok⟩, h⟩ := hx
    rw [ReadSteps_is h]
    cases ok
    · rw [h.zero rfl]; simp
    · have := code_len (l := F) (h.sound rfl).1
      show F.length ≤ _
      omega
  · unfold ReadSteps; rw [dif_neg hx]; simp
end Go.Z
namespace Go.Proofs.YtmgocfdhngeeiaaGreatDoor
open Go.RowKit
theorem impl_ReadSteps (s : ByteArray) (w : World) (hm : s.size ≤ 1048576) (hL : LV w) :
    Calls Tryz.prog 26 #[.string s] w fun e w' => (∃ p', e = .returned (.tuple #[p', .int .i64 (Z.ReadSteps s).2]) ∧ K.recs true K.StR w' w.heap.size w'.heap.size p' (Z.ReadSteps s).1) ∧ K.Ext w w' :=
  (impl_ReadStepsR s w hm hL).mono fun e w' ⟨⟨F, ok, p, he, hR, ho⟩, hx⟩ => ⟨⟨p, by rw [he, Z.ReadSteps_is hR], by rw [Z.ReadSteps_is hR]; exact ho⟩, hx⟩
theorem spec_ReadSteps (s : ByteArray) (w : World) (hm : s.size ≤ 1048576) :
    Calls Tryz.prog 27 #[.string s] w fun e w' => (∃ p', e = .returned (.tuple #[p', .int .i64 (Z.ReadSteps s).2]) ∧ K.recs false K.StR w' w.heap.size w'.heap.size p' (Z.ReadSteps s).1) ∧ K.Ext w w' :=
  (spec_ReadStepsR s w hm).mono fun e w' ⟨⟨F, ok, p, he, hR, ho⟩, hx⟩ => ⟨⟨p, by rw [he, Z.ReadSteps_is hR], by rw [Z.ReadSteps_is hR]; exact ho⟩, hx⟩
end Go.Proofs.YtmgocfdhngeeiaaGreatDoor
end
