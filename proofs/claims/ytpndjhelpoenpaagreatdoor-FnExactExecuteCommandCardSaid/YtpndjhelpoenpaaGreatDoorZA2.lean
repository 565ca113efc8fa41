/-
  Texts of this claim, merged.
-/
import Derived.Test.YtpndjhelpoenpaaGreatDoorZA1
import Derived.Lib.AtoiTie
import Derived.Shelf.Strings.Builder1
import Derived.Shelf.Strings.Builder2
import Derived.Shelf.Strings.OnBuilder
import Derived.Shelf.Small.Wraps
import Derived.Shelf.Strconv.Atoi
import Derived.Shelf.Strconv.Itoa0
import Derived.Shelf.Strconv.Itoa1
import Derived.Shelf.LaysM
import Derived.Shelf.Strconv.Itoa2
import Derived.Shelf.Strconv.Itoa3
import Derived.Shelf.Strconv.AtoiErrFast
import Derived.Shelf.Strconv.ParseIntEmpty
import Derived.Shelf.Strconv.AtoiFail
import Derived.Shelf.Strconv.Clone
import Derived.Shelf.Strconv.SyntaxError
import Derived.Shelf.LaysC
import Derived.Shelf.Strconv.ToError
import Derived.Shelf.Strconv.Lower
import Derived.Shelf.Strconv.ParseUint10
import Derived.Shelf.Strconv.ParseUint10Empty
import Derived.Shelf.Strconv.ParseUint10Any
import Derived.Shelf.Strconv.ParseInt10
import Derived.Shelf.Strconv.AtoiLong
import Derived.Shelf.Strconv.AtoiInnerAll
import Derived.Shelf.Strconv.RangeError
import Derived.Shelf.Strconv.ToErrorRange
import Derived.Shelf.Strconv.AtoiAll
import Derived.Shelf.Strings.Search1
import Derived.Shelf.Strings.Search2
import Derived.Shelf.Strings.Search3
import Derived.Shelf.Strings.Cut
import Derived.Shelf.Strings.Count
import Derived.Shelf.Strings.Shaped
import Derived.Shelf.Strings.Split
import Derived.Shelf.Strings.SplitShaped
import Derived.Shelf.Unicode.DecodeSlow
import Derived.Test.YtpndjhelpoenpaaGreatDoorProg
import Derived.Lib.ItoaLen
import Derived.Lib.ItoaMem
import Derived.Lib.AppendIntMem
import Derived.Lib.SmallJoins
import Derived.Lib.Strings
import Derived.BigGuardPart
import Derived.Handy
import Derived.Deep.DrawnRows
import Derived.Lib.IndexAny
import Derived.Lib.Hide
set_option linter.unusedVariables false
set_option linter.unusedSimpArgs false
set_option maxRecDepth 100000
set_option maxHeartbeats 8000000
namespace Go.Proofs
open Go.Shelf
def Tryz.lays156_ren : Go.Shelf.Ren := ⟨fun | 156 => 200 | 165 => 214 | 166 => 215 | 169 => 216 | 240 => 227 | 241 => 228 | 276 => 232 | 277 => 233 | n => n, fun | 31 => 42 | 9 => 9 | 3 => 3 | 4 => 4 | 0 => 0 | 20 => 20 | 72 => 223 | 76 => 162 | 70 => 221 | 37 => 52 | 75 => 161 | 127 => 237 | 164 => 243 | 5 => 5 | 80 => 225 | n => n, fun | n => n⟩
theorem Tryz.lays156 : Go.Proofs.Lays.n156 Tryz.prog Tryz.lays156_ren := {
  mixed := by kernel_rfl
  f156 := Tryz.func200.trans (congrArg some (by kernel_rfl))
  f165 := Tryz.func214.trans (congrArg some (by kernel_rfl))
  f166 := Tryz.func215.trans (congrArg some (by kernel_rfl))
  f169 := Tryz.func216.trans (congrArg some (by kernel_rfl))
  f240 := Tryz.func227.trans (congrArg some (by kernel_rfl))
  f241 := Tryz.func228.trans (congrArg some (by kernel_rfl))
  f276 := Tryz.func232.trans (congrArg some (by kernel_rfl))
  f277 := Tryz.func233.trans (congrArg some (by kernel_rfl))
  t0 := Tryz.underlying0
  a0 := Tryz.isAgg0
  z0 := Tryz.sizeOf0
  v0 := Tryz.zeroValue0
  t3 := Tryz.underlying3
  a3 := Tryz.isAgg3
  z3 := Tryz.sizeOf3
  v3 := Tryz.zeroValue3
  t4 := Tryz.underlying4
  a4 := Tryz.isAgg4
  z4 := Tryz.sizeOf4
  v4 := Tryz.zeroValue4
  t9 := Tryz.underlying9
  a9 := Tryz.isAgg9
  z9 := Tryz.sizeOf9
  v9 := Tryz.zeroValue9
  t20 := Tryz.underlying20
  a20 := Tryz.isAgg20
  z20 := Tryz.sizeOf20
  v20 := Tryz.zeroValue20
  t31 := Tryz.underlying42
  a31 := Tryz.isAgg42
  z31 := Tryz.sizeOf42
  v31 := Tryz.zeroValue42
  t37 := Tryz.underlying52
  a37 := Tryz.isAgg52
  z37 := Tryz.sizeOf52
  v37 := Tryz.zeroValue52
  t70 := Tryz.underlying221
  a70 := Tryz.isAgg221
  z70 := Tryz.sizeOf221
  v70 := Tryz.zeroValue221
  t72 := Tryz.underlying223
  a72 := Tryz.isAgg223
  z72 := Tryz.sizeOf223
  v72 := Tryz.zeroValue223
  t75 := Tryz.underlying161
  a75 := Tryz.isAgg161
  z75 := Tryz.sizeOf161
  v75 := Tryz.zeroValue161
  t76 := Tryz.underlying162
  a76 := Tryz.isAgg162
  z76 := Tryz.sizeOf162
  v76 := Tryz.zeroValue162
  t127 := Tryz.underlying237
  a127 := Tryz.isAgg237
  z127 := Tryz.sizeOf237
  v127 := Tryz.zeroValue237
  t164 := Tryz.underlying243
  a164 := Tryz.isAgg243
  z164 := Tryz.sizeOf243
  v164 := Tryz.zeroValue243 }
theorem Tryz.Builder_Extra_156 : Builder.Extra Tryz.prog Tryz.lays156_ren := {
  sizeBuilder := by kernel_rfl
  liesBuilder := by kernel_rfl
  t5 := Tryz.underlying5
  a5 := Tryz.isAgg5
  z5 := Tryz.sizeOf5
  v5 := Tryz.zeroValue5
  infoByte := by kernel_rfl
  cellsByte := by kernel_rfl
  sizeByte := by kernel_rfl
  neB5 := by decide }
open Go.RowKit in
theorem Tryz.strings_Join (bk o c : Nat) (xs : List ByteArray) (sep : ByteArray) (w : World) (hcells : ∀ (j : Nat) x, xs[j]? = some x → w.cell? ⟨bk, o + j, none⟩ = some (.string x)) (hbk : bk < w.heap.size) (hN : xs.length ≤ 140737488355328) (hcap : xs.length ≤ c) (hlen : (Lib.join (xs.map (·.data.toList)) sep.data.toList).length ≤ 140737488355328) :
    Calls Tryz.prog 200 #[.slice (some ⟨bk, o, none⟩) xs.length c, .string sep] w fun e w' => e = .returned (.string ⟨(Lib.join (xs.map (·.data.toList)) sep.data.toList).toArray⟩) ∧ Below w.heap.size w w' := Any.strings_Join Tryz.lays156 Tryz.Builder_Extra_156 bk o c xs sep w hcells hbk hN hcap hlen
def Tryz.lays122_ren : Go.Shelf.Ren := ⟨fun | 122 => 174 | 215 => 202 | n => n, fun | 3 => 3 | 4 => 4 | n => n, fun | n => n⟩
theorem Tryz.lays122 : Go.Proofs.Lays.n122 Tryz.prog Tryz.lays122_ren := {
  mixed := by kernel_rfl
  f122 := Tryz.func174.trans (congrArg some (by kernel_rfl))
  f215 := Tryz.func202.trans (congrArg some (by kernel_rfl))
  t3 := Tryz.underlying3
  a3 := Tryz.isAgg3
  z3 := Tryz.sizeOf3
  v3 := Tryz.zeroValue3
  t4 := Tryz.underlying4
  a4 := Tryz.isAgg4
  z4 := Tryz.sizeOf4
  v4 := Tryz.zeroValue4 }
open Go.RowKit in
theorem Tryz.cmp_Compare_int (x y : Int) (w : World) :
    Calls Tryz.prog 174 #[.int .i64 x, .int .i64 y] w fun e w' => e = .returned (.int .i64 (Lib.compareInt x y)) ∧ w' = w := Any.cmp_Compare_int Tryz.lays122 x y w
def Tryz.laysM171_ren : Go.Shelf.Ren := ⟨fun | 171 => 111 | 243 => 153 | 246 => 181 | 283 => 204 | 284 => 205 | 285 => 206 | 286 => 207 | 129 => 220 | 317 => 219 | 318 => 221 | 319 => 222 | 320 => 223 | 337 => 230 | 338 => 231 | n => n, fun | 3 => 3 | 9 => 9 | 2 => 2 | 4 => 4 | 171 => 208 | 0 => 0 | 53 => 87 | 37 => 52 | 5 => 5 | 173 => 211 | 212 => 233 | 51 => 213 | 20 => 20 | 213 => 234 | 46 => 172 | 232 => 246 | 233 => 247 | n => n, fun | 17 => 5 | 18 => 6 | 19 => 7 | n => n⟩
theorem Tryz.laysM171 : Go.Proofs.LaysM.n171 Tryz.prog Tryz.laysM171_ren := {
  mixed := by kernel_rfl
  f129 := Tryz.func220.trans (congrArg some (by kernel_rfl))
  f171 := Tryz.func111.trans (congrArg some (by kernel_rfl))
  f243 := Tryz.func153.trans (congrArg some (by kernel_rfl))
  f246 := Tryz.func181.trans (congrArg some (by kernel_rfl))
  f283 := Tryz.func204.trans (congrArg some (by kernel_rfl))
  f284 := Tryz.func205.trans (congrArg some (by kernel_rfl))
  f285 := Tryz.func206.trans (congrArg some (by kernel_rfl))
  f286 := Tryz.func207.trans (congrArg some (by kernel_rfl))
  f317 := Tryz.func219.trans (congrArg some (by kernel_rfl))
  f318 := Tryz.func221.trans (congrArg some (by kernel_rfl))
  f319 := Tryz.func222.trans (congrArg some (by kernel_rfl))
  f320 := Tryz.func223.trans (congrArg some (by kernel_rfl))
  f337 := Tryz.func230.trans (congrArg some (by kernel_rfl))
  f338 := Tryz.func231.trans (congrArg some (by kernel_rfl))
  t0 := Tryz.underlying0
  a0 := Tryz.isAgg0
  z0 := Tryz.sizeOf0
  v0 := Tryz.zeroValue0
  t2 := Tryz.underlying2
  a2 := Tryz.isAgg2
  z2 := Tryz.sizeOf2
  v2 := Tryz.zeroValue2
  t3 := Tryz.underlying3
  a3 := Tryz.isAgg3
  z3 := Tryz.sizeOf3
  v3 := Tryz.zeroValue3
  t4 := Tryz.underlying4
  a4 := Tryz.isAgg4
  z4 := Tryz.sizeOf4
  v4 := Tryz.zeroValue4
  t5 := Tryz.underlying5
  a5 := Tryz.isAgg5
  z5 := Tryz.sizeOf5
  v5 := Tryz.zeroValue5
  t9 := Tryz.underlying9
  a9 := Tryz.isAgg9
  z9 := Tryz.sizeOf9
  v9 := Tryz.zeroValue9
  t20 := Tryz.underlying20
  a20 := Tryz.isAgg20
  z20 := Tryz.sizeOf20
  v20 := Tryz.zeroValue20
  t37 := Tryz.underlying52
  a37 := Tryz.isAgg52
  z37 := Tryz.sizeOf52
  v37 := Tryz.zeroValue52
  t46 := Tryz.underlying172
  a46 := Tryz.isAgg172
  z46 := Tryz.sizeOf172
  v46 := Tryz.zeroValue172
  t51 := Tryz.underlying213
  a51 := Tryz.isAgg213
  z51 := Tryz.sizeOf213
  v51 := Tryz.zeroValue213
  t53 := Tryz.underlying87
  a53 := Tryz.isAgg87
  z53 := Tryz.sizeOf87
  v53 := Tryz.zeroValue87
  t171 := Tryz.underlying208
  a171 := Tryz.isAgg208
  z171 := Tryz.sizeOf208
  v171 := Tryz.zeroValue208
  t173 := Tryz.underlying211
  a173 := Tryz.isAgg211
  z173 := Tryz.sizeOf211
  v173 := Tryz.zeroValue211
  t212 := Tryz.underlying233
  a212 := Tryz.isAgg233
  z212 := Tryz.sizeOf233
  v212 := Tryz.zeroValue233
  t213 := Tryz.underlying234
  a213 := Tryz.isAgg234
  z213 := Tryz.sizeOf234
  t232 := Tryz.underlying246
  a232 := Tryz.isAgg246
  z232 := Tryz.sizeOf246
  v232 := Tryz.zeroValue246
  t233 := Tryz.underlying247
  a233 := Tryz.isAgg247
  z233 := Tryz.sizeOf247
  v233 := Tryz.zeroValue247
  g17 := by kernel_rfl
  g18 := by kernel_rfl
  g19 := by kernel_rfl
  i0 := by kernel_rfl
  i2 := by kernel_rfl
  i3 := by kernel_rfl
  i4 := by kernel_rfl
  i5 := by kernel_rfl
  i9 := by kernel_rfl
  i20 := by kernel_rfl
  i37 := by kernel_rfl
  i46 := by kernel_rfl
  i51 := by kernel_rfl
  i53 := by kernel_rfl
  i171 := by kernel_rfl
  i173 := by kernel_rfl
  i212 := by kernel_rfl
  i232 := by kernel_rfl
  i233 := by kernel_rfl
  m17 := by kernel_rfl
  m18 := by kernel_rfl
  m19 := by kernel_rfl }
open Go.RowKit Go.Sort Go.Lib in
theorem Tryz.strconv_Itoa (n : Int) (h0 : -9223372036854775808 ≤ n) (h1 : n ≤ 9223372036854775807) (w : World) (htab : Lib.TabIs Tryz.prog w "internal/strconv.uint64pow10" .u64 Lib.pow10Tab) :
    Calls Tryz.prog 111 #[.int .i64 n] w fun e w' => e = .returned (.string ⟨(Lib.itoa n).toArray⟩) ∧ ∃ k os, w' = grow (w.drewN k) os := Any.strconv_Itoa Tryz.laysM171 n h0 h1 w htab
def Tryz.laysC172_ren : Go.Shelf.Ren := ⟨fun | 172 => 138 | 244 => 165 | 245 => 166 | 247 => 190 | 279 => 191 | 280 => 192 | 281 => 193 | 282 => 194 | 287 => 210 | 316 => 211 | 171 => 111 | 205 => 212 | 321 => 224 | 322 => 225 | 243 => 153 | 246 => 181 | 283 => 204 | 284 => 205 | 285 => 206 | 286 => 207 | 129 => 220 | 317 => 219 | 318 => 221 | 319 => 222 | 320 => 223 | 337 => 230 | 338 => 231 | n => n, fun | 9 => 9 | 3 => 3 | 75 => 161 | 76 => 162 | 4 => 4 | 5 => 5 | 167 => 196 | 37 => 52 | 0 => 0 | 85 => 197 | 2 => 2 | 168 => 199 | 53 => 87 | 175 => 216 | 46 => 172 | 210 => 219 | 127 => 237 | 145 => 240 | 143 => 238 | 21 => 21 | 171 => 208 | 173 => 211 | 212 => 233 | 51 => 213 | 20 => 20 | 213 => 234 | 232 => 246 | 233 => 247 | 80 => 225 | n => n, fun | 15 => 1 | 16 => 2 | 17 => 5 | 18 => 6 | 19 => 7 | n => n⟩
theorem Tryz.laysC172 : Go.Proofs.LaysC.n172 Tryz.prog Tryz.laysC172_ren := {
  mixed := by kernel_rfl
  f129 := Tryz.func220.trans (congrArg some (by kernel_rfl))
  f171 := Tryz.func111.trans (congrArg some (by kernel_rfl))
  f172 := Tryz.func138.trans (congrArg some (by kernel_rfl))
  f205 := Tryz.func212.trans (congrArg some (by kernel_rfl))
  f243 := Tryz.func153.trans (congrArg some (by kernel_rfl))
  f244 := Tryz.func165.trans (congrArg some (by kernel_rfl))
  f245 := Tryz.func166.trans (congrArg some (by kernel_rfl))
  f246 := Tryz.func181.trans (congrArg some (by kernel_rfl))
  f247 := Tryz.func190.trans (congrArg some (by kernel_rfl))
  f279 := Tryz.func191.trans (congrArg some (by kernel_rfl))
  f280 := Tryz.func192.trans (congrArg some (by kernel_rfl))
  f281 := Tryz.func193.trans (congrArg some (by kernel_rfl))
  f282 := Tryz.func194.trans (congrArg some (by kernel_rfl))
  f283 := Tryz.func204.trans (congrArg some (by kernel_rfl))
  f284 := Tryz.func205.trans (congrArg some (by kernel_rfl))
  f285 := Tryz.func206.trans (congrArg some (by kernel_rfl))
  f286 := Tryz.func207.trans (congrArg some (by kernel_rfl))
  f287 := Tryz.func210.trans (congrArg some (by kernel_rfl))
  f316 := Tryz.func211.trans (congrArg some (by kernel_rfl))
  f317 := Tryz.func219.trans (congrArg some (by kernel_rfl))
  f318 := Tryz.func221.trans (congrArg some (by kernel_rfl))
  f319 := Tryz.func222.trans (congrArg some (by kernel_rfl))
  f320 := Tryz.func223.trans (congrArg some (by kernel_rfl))
  f321 := Tryz.func224.trans (congrArg some (by kernel_rfl))
  f322 := Tryz.func225.trans (congrArg some (by kernel_rfl))
  f337 := Tryz.func230.trans (congrArg some (by kernel_rfl))
  f338 := Tryz.func231.trans (congrArg some (by kernel_rfl))
  t0 := Tryz.underlying0
  a0 := Tryz.isAgg0
  z0 := Tryz.sizeOf0
  v0 := Tryz.zeroValue0
  t2 := Tryz.underlying2
  a2 := Tryz.isAgg2
  z2 := Tryz.sizeOf2
  v2 := Tryz.zeroValue2
  t3 := Tryz.underlying3
  a3 := Tryz.isAgg3
  z3 := Tryz.sizeOf3
  v3 := Tryz.zeroValue3
  t4 := Tryz.underlying4
  a4 := Tryz.isAgg4
  z4 := Tryz.sizeOf4
  v4 := Tryz.zeroValue4
  t5 := Tryz.underlying5
  a5 := Tryz.isAgg5
  z5 := Tryz.sizeOf5
  v5 := Tryz.zeroValue5
  t9 := Tryz.underlying9
  a9 := Tryz.isAgg9
  z9 := Tryz.sizeOf9
  v9 := Tryz.zeroValue9
  t20 := Tryz.underlying20
  a20 := Tryz.isAgg20
  z20 := Tryz.sizeOf20
  v20 := Tryz.zeroValue20
  t21 := Tryz.underlying21
  a21 := Tryz.isAgg21
  z21 := Tryz.sizeOf21
  v21 := Tryz.zeroValue21
  t37 := Tryz.underlying52
  a37 := Tryz.isAgg52
  z37 := Tryz.sizeOf52
  v37 := Tryz.zeroValue52
  t46 := Tryz.underlying172
  a46 := Tryz.isAgg172
  z46 := Tryz.sizeOf172
  v46 := Tryz.zeroValue172
  t51 := Tryz.underlying213
  a51 := Tryz.isAgg213
  z51 := Tryz.sizeOf213
  v51 := Tryz.zeroValue213
  t53 := Tryz.underlying87
  a53 := Tryz.isAgg87
  z53 := Tryz.sizeOf87
  v53 := Tryz.zeroValue87
  t75 := Tryz.underlying161
  a75 := Tryz.isAgg161
  z75 := Tryz.sizeOf161
  v75 := Tryz.zeroValue161
  t76 := Tryz.underlying162
  a76 := Tryz.isAgg162
  z76 := Tryz.sizeOf162
  v76 := Tryz.zeroValue162
  t85 := Tryz.underlying197
  a85 := Tryz.isAgg197
  z85 := Tryz.sizeOf197
  v85 := Tryz.zeroValue197
  t127 := Tryz.underlying237
  a127 := Tryz.isAgg237
  z127 := Tryz.sizeOf237
  v127 := Tryz.zeroValue237
  t143 := Tryz.underlying238
  a143 := Tryz.isAgg238
  z143 := Tryz.sizeOf238
  v143 := Tryz.zeroValue238
  t145 := Tryz.underlying240
  a145 := Tryz.isAgg240
  z145 := Tryz.sizeOf240
  v145 := Tryz.zeroValue240
  t167 := Tryz.underlying196
  a167 := Tryz.isAgg196
  z167 := Tryz.sizeOf196
  v167 := Tryz.zeroValue196
  t168 := Tryz.underlying199
  a168 := Tryz.isAgg199
  z168 := Tryz.sizeOf199
  v168 := Tryz.zeroValue199
  t171 := Tryz.underlying208
  a171 := Tryz.isAgg208
  z171 := Tryz.sizeOf208
  v171 := Tryz.zeroValue208
  t173 := Tryz.underlying211
  a173 := Tryz.isAgg211
  z173 := Tryz.sizeOf211
  v173 := Tryz.zeroValue211
  t175 := Tryz.underlying216
  a175 := Tryz.isAgg216
  z175 := Tryz.sizeOf216
  v175 := Tryz.zeroValue216
  t210 := Tryz.underlying219
  a210 := Tryz.isAgg219
  z210 := Tryz.sizeOf219
  v210 := Tryz.zeroValue219
  t212 := Tryz.underlying233
  a212 := Tryz.isAgg233
  z212 := Tryz.sizeOf233
  v212 := Tryz.zeroValue233
  t213 := Tryz.underlying234
  a213 := Tryz.isAgg234
  z213 := Tryz.sizeOf234
  t232 := Tryz.underlying246
  a232 := Tryz.isAgg246
  z232 := Tryz.sizeOf246
  v232 := Tryz.zeroValue246
  t233 := Tryz.underlying247
  a233 := Tryz.isAgg247
  z233 := Tryz.sizeOf247
  v233 := Tryz.zeroValue247
  g15 := by kernel_rfl
  g16 := by kernel_rfl
  g17 := by kernel_rfl
  g18 := by kernel_rfl
  g19 := by kernel_rfl
  t80 := Tryz.underlying225
  a80 := Tryz.isAgg225
  z80 := Tryz.sizeOf225
  v80 := Tryz.zeroValue225
  i0 := by kernel_rfl
  i2 := by kernel_rfl
  i3 := by kernel_rfl
  i4 := by kernel_rfl
  i5 := by kernel_rfl
  i9 := by kernel_rfl
  i20 := by kernel_rfl
  i21 := by kernel_rfl
  i37 := by kernel_rfl
  i46 := by kernel_rfl
  i51 := by kernel_rfl
  i53 := by kernel_rfl
  i75 := by kernel_rfl
  i76 := by kernel_rfl
  i80 := by kernel_rfl
  i85 := by kernel_rfl
  i127 := by kernel_rfl
  i143 := by kernel_rfl
  i145 := by kernel_rfl
  i167 := by kernel_rfl
  i168 := by kernel_rfl
  i171 := by kernel_rfl
  i173 := by kernel_rfl
  i175 := by kernel_rfl
  i210 := by kernel_rfl
  i212 := by kernel_rfl
  i232 := by kernel_rfl
  i233 := by kernel_rfl
  m15 := by kernel_rfl
  m16 := by kernel_rfl
  m17 := by kernel_rfl
  m18 := by kernel_rfl
  m19 := by kernel_rfl
  c0 := by kernel_rfl
  c2 := by kernel_rfl
  c3 := by kernel_rfl
  c4 := by kernel_rfl
  c5 := by kernel_rfl
  c9 := by kernel_rfl
  c20 := by kernel_rfl
  c21 := by kernel_rfl
  c37 := by kernel_rfl
  c46 := by kernel_rfl
  c51 := by kernel_rfl
  c53 := by kernel_rfl
  c75 := by kernel_rfl
  c76 := by kernel_rfl
  c80 := by kernel_rfl
  c85 := by kernel_rfl
  c127 := by kernel_rfl
  c143 := by kernel_rfl
  c145 := by kernel_rfl
  c167 := by kernel_rfl
  c168 := by kernel_rfl
  c171 := by kernel_rfl
  c173 := by kernel_rfl
  c175 := by kernel_rfl
  c210 := by kernel_rfl
  c212 := by kernel_rfl
  c213 := by kernel_rfl
  c232 := by kernel_rfl
  c233 := by kernel_rfl }
open Go.RowKit in
theorem Tryz.strconv_Atoi_ok (s : ByteArray) (hmax : s.size ≤ 9223372036854775806) (v : Int) (h : Lib.atoiAll s.data.toList = .ok v) (w : World) :
    Calls Tryz.prog 138 #[.string s] w fun e w' => e = .returned (.tuple #[.int .i64 v, .nilIface]) ∧ (w' = w ∨ ∃ t, w' = Lib.bytesWorld w 5 t) := Any.strconv_Atoi_ok Tryz.laysC172 s hmax v h w
open Go.RowKit in
theorem Tryz.strconv_Atoi_syntax (s : ByteArray) (hlim : s.size ≤ 281474976710656) (h : Lib.atoiAll s.data.toList = Lib.NumEnd.ofOption none) (ev : Value) (w : World) (hv : w.cell? ⟨1, 0, none⟩ = some ev) (hev : ev = .nilIface ∨ ∃ te pe, ev = .iface te pe) :
    Calls Tryz.prog 138 #[.string s] w fun e w' => ∃ N, e = .returned (.tuple #[.int .i64 (0), .iface 199 (.pointer (some ⟨N, 0, none⟩))]) ∧ w.heap.size ≤ N ∧ w'.heap[N]? = some (.cells #[.string ⟨#[65, 116, 111, 105]⟩, .string s, ev] 219 (0, 0)) ∧ Below w.heap.size w w' := Any.strconv_Atoi_syntax Tryz.laysC172 s hlim h ev w hv hev
open Go.RowKit in
theorem Tryz.strconv_Atoi_range (s : ByteArray) (hlim : s.size ≤ 281474976710656) (h : Lib.atoiAll s.data.toList = .range) (ev : Value) (w : World) (hv : w.cell? ⟨2, 0, none⟩ = some ev) (hev : ev = .nilIface ∨ ∃ te pe, ev = .iface te pe) :
    Calls Tryz.prog 138 #[.string s] w fun e w' => ∃ N, e = .returned (.tuple #[.int .i64 (Lib.atoiSat s.data.toList), .iface 199 (.pointer (some ⟨N, 0, none⟩))]) ∧ w.heap.size ≤ N ∧ w'.heap[N]? = some (.cells #[.string ⟨#[65, 116, 111, 105]⟩, .string s, ev] 219 (0, 0)) ∧ Below w.heap.size w w' := Any.strconv_Atoi_range Tryz.laysC172 s hlim h ev w hv hev
def Tryz.lays144_ren : Go.Shelf.Ren := ⟨fun | 144 => 92 | 143 => 137 | 219 => 164 | 217 => 186 | 225 => 187 | 224 => 188 | 267 => 189 | 266 => 208 | 314 => 209 | n => n, fun | 9 => 9 | 4 => 4 | 3 => 3 | 5 => 5 | 46 => 172 | 146 => 214 | 51 => 213 | n => n, fun | 1 => 0 | n => n⟩
theorem Tryz.lays144 : Go.Proofs.Lays.n144 Tryz.prog Tryz.lays144_ren := {
  mixed := by kernel_rfl
  f143 := Tryz.func137.trans (congrArg some (by kernel_rfl))
  f144 := Tryz.func92.trans (congrArg some (by kernel_rfl))
  f217 := Tryz.func186.trans (congrArg some (by kernel_rfl))
  f219 := Tryz.func164.trans (congrArg some (by kernel_rfl))
  f224 := Tryz.func188.trans (congrArg some (by kernel_rfl))
  f225 := Tryz.func187.trans (congrArg some (by kernel_rfl))
  f266 := Tryz.func208.trans (congrArg some (by kernel_rfl))
  f267 := Tryz.func189.trans (congrArg some (by kernel_rfl))
  f314 := Tryz.func209.trans (congrArg some (by kernel_rfl))
  t3 := Tryz.underlying3
  a3 := Tryz.isAgg3
  z3 := Tryz.sizeOf3
  v3 := Tryz.zeroValue3
  t4 := Tryz.underlying4
  a4 := Tryz.isAgg4
  z4 := Tryz.sizeOf4
  v4 := Tryz.zeroValue4
  t5 := Tryz.underlying5
  a5 := Tryz.isAgg5
  z5 := Tryz.sizeOf5
  v5 := Tryz.zeroValue5
  t9 := Tryz.underlying9
  a9 := Tryz.isAgg9
  z9 := Tryz.sizeOf9
  v9 := Tryz.zeroValue9
  t46 := Tryz.underlying172
  a46 := Tryz.isAgg172
  z46 := Tryz.sizeOf172
  v46 := Tryz.zeroValue172
  t51 := Tryz.underlying213
  a51 := Tryz.isAgg213
  z51 := Tryz.sizeOf213
  v51 := Tryz.zeroValue213
  t146 := Tryz.underlying214
  a146 := Tryz.isAgg214
  z146 := Tryz.sizeOf214
  v146 := Tryz.zeroValue214
  g1 := by kernel_rfl }
open Go.RowKit Go.Lib in
theorem Tryz.strings_Contains_one (s : ByteArray) (c : UInt8) (w : World) :
    Calls Tryz.prog 92 #[.string s, .string ⟨#[c]⟩] w fun e w' => e = .returned (.bool (decide (0 ≤ Lib.indexByte s.data.toList c))) ∧ w' = w := Any.strings_Contains_one Tryz.lays144 s c w
def Tryz.lays145_ren : Go.Shelf.Ren := ⟨fun | 145 => 116 | 220 => 157 | 219 => 164 | 217 => 186 | 225 => 187 | 224 => 188 | 267 => 189 | 266 => 208 | 314 => 209 | n => n, fun | 9 => 9 | 4 => 4 | 59 => 142 | 3 => 3 | 5 => 5 | 46 => 172 | 146 => 214 | 51 => 213 | n => n, fun | 1 => 0 | n => n⟩
theorem Tryz.lays145 : Go.Proofs.Lays.n145 Tryz.prog Tryz.lays145_ren := {
  mixed := by kernel_rfl
  f145 := Tryz.func116.trans (congrArg some (by kernel_rfl))
  f217 := Tryz.func186.trans (congrArg some (by kernel_rfl))
  f219 := Tryz.func164.trans (congrArg some (by kernel_rfl))
  f220 := Tryz.func157.trans (congrArg some (by kernel_rfl))
  f224 := Tryz.func188.trans (congrArg some (by kernel_rfl))
  f225 := Tryz.func187.trans (congrArg some (by kernel_rfl))
  f266 := Tryz.func208.trans (congrArg some (by kernel_rfl))
  f267 := Tryz.func189.trans (congrArg some (by kernel_rfl))
  f314 := Tryz.func209.trans (congrArg some (by kernel_rfl))
  t3 := Tryz.underlying3
  a3 := Tryz.isAgg3
  z3 := Tryz.sizeOf3
  v3 := Tryz.zeroValue3
  t4 := Tryz.underlying4
  a4 := Tryz.isAgg4
  z4 := Tryz.sizeOf4
  v4 := Tryz.zeroValue4
  t5 := Tryz.underlying5
  a5 := Tryz.isAgg5
  z5 := Tryz.sizeOf5
  v5 := Tryz.zeroValue5
  t9 := Tryz.underlying9
  a9 := Tryz.isAgg9
  z9 := Tryz.sizeOf9
  v9 := Tryz.zeroValue9
  t46 := Tryz.underlying172
  a46 := Tryz.isAgg172
  z46 := Tryz.sizeOf172
  v46 := Tryz.zeroValue172
  t51 := Tryz.underlying213
  a51 := Tryz.isAgg213
  z51 := Tryz.sizeOf213
  v51 := Tryz.zeroValue213
  t59 := Tryz.underlying142
  a59 := Tryz.isAgg142
  z59 := Tryz.sizeOf142
  v59 := Tryz.zeroValue142
  t146 := Tryz.underlying214
  a146 := Tryz.isAgg214
  z146 := Tryz.sizeOf214
  v146 := Tryz.zeroValue214
  g1 := by kernel_rfl }
open Go.RowKit Go.Lib in
theorem Tryz.strings_Cut (s sep : ByteArray) (m : Int) (w : World) (hs : s.size < 4294967281) (hm : w.cell? ⟨0, 0, none⟩ = some (.int .i64 m)) :
    Calls Tryz.prog 116 #[.string s, .string sep] w fun e w' => e = .returned (.tuple #[.string ⟨(Lib.cut s.data.toList sep.data.toList).1.toArray⟩, .string ⟨(Lib.cut s.data.toList sep.data.toList).2.1.toArray⟩, .bool (Lib.cut s.data.toList sep.data.toList).2.2]) ∧ ∃ n, w' = w.drewN n := Any.strings_Cut Tryz.lays145 s sep m w hs hm
def Tryz.lays146_ren : Go.Shelf.Ren := ⟨fun | 146 => 50 | 221 => 97 | 268 => 144 | 138 => 145 | 143 => 137 | 195 => 175 | 197 => 176 | 218 => 177 | 219 => 164 | 260 => 203 | 217 => 186 | 225 => 187 | 224 => 188 | 267 => 189 | 266 => 208 | 314 => 209 | n => n, fun | 9 => 9 | 31 => 42 | 3 => 3 | 4 => 4 | 0 => 0 | 105 => 188 | 21 => 21 | 5 => 5 | 46 => 172 | 119 => 228 | 139 => 231 | 138 => 230 | 146 => 214 | 51 => 213 | n => n, fun | 1 => 0 | 3 => 3 | 4 => 4 | n => n⟩
theorem Tryz.lays146 : Go.Proofs.Lays.n146 Tryz.prog Tryz.lays146_ren := {
  mixed := by kernel_rfl
  f138 := Tryz.func145.trans (congrArg some (by kernel_rfl))
  f143 := Tryz.func137.trans (congrArg some (by kernel_rfl))
  f146 := Tryz.func50.trans (congrArg some (by kernel_rfl))
  f195 := Tryz.func175.trans (congrArg some (by kernel_rfl))
  f197 := Tryz.func176.trans (congrArg some (by kernel_rfl))
  f217 := Tryz.func186.trans (congrArg some (by kernel_rfl))
  f218 := Tryz.func177.trans (congrArg some (by kernel_rfl))
  f219 := Tryz.func164.trans (congrArg some (by kernel_rfl))
  f221 := Tryz.func97.trans (congrArg some (by kernel_rfl))
  f224 := Tryz.func188.trans (congrArg some (by kernel_rfl))
  f225 := Tryz.func187.trans (congrArg some (by kernel_rfl))
  f260 := Tryz.func203.trans (congrArg some (by kernel_rfl))
  f266 := Tryz.func208.trans (congrArg some (by kernel_rfl))
  f267 := Tryz.func189.trans (congrArg some (by kernel_rfl))
  f268 := Tryz.func144.trans (congrArg some (by kernel_rfl))
  f314 := Tryz.func209.trans (congrArg some (by kernel_rfl))
  t0 := Tryz.underlying0
  a0 := Tryz.isAgg0
  z0 := Tryz.sizeOf0
  v0 := Tryz.zeroValue0
  t3 := Tryz.underlying3
  a3 := Tryz.isAgg3
  z3 := Tryz.sizeOf3
  v3 := Tryz.zeroValue3
  t4 := Tryz.underlying4
  a4 := Tryz.isAgg4
  z4 := Tryz.sizeOf4
  v4 := Tryz.zeroValue4
  t5 := Tryz.underlying5
  a5 := Tryz.isAgg5
  z5 := Tryz.sizeOf5
  v5 := Tryz.zeroValue5
  t9 := Tryz.underlying9
  a9 := Tryz.isAgg9
  z9 := Tryz.sizeOf9
  v9 := Tryz.zeroValue9
  t21 := Tryz.underlying21
  a21 := Tryz.isAgg21
  z21 := Tryz.sizeOf21
  v21 := Tryz.zeroValue21
  t31 := Tryz.underlying42
  a31 := Tryz.isAgg42
  z31 := Tryz.sizeOf42
  v31 := Tryz.zeroValue42
  t46 := Tryz.underlying172
  a46 := Tryz.isAgg172
  z46 := Tryz.sizeOf172
  v46 := Tryz.zeroValue172
  t51 := Tryz.underlying213
  a51 := Tryz.isAgg213
  z51 := Tryz.sizeOf213
  v51 := Tryz.zeroValue213
  t105 := Tryz.underlying188
  a105 := Tryz.isAgg188
  z105 := Tryz.sizeOf188
  v105 := Tryz.zeroValue188
  t119 := Tryz.underlying228
  a119 := Tryz.isAgg228
  z119 := Tryz.sizeOf228
  t138 := Tryz.underlying230
  a138 := Tryz.isAgg230
  z138 := Tryz.sizeOf230
  v138 := Tryz.zeroValue230
  t139 := Tryz.underlying231
  a139 := Tryz.isAgg231
  z139 := Tryz.sizeOf231
  v139 := Tryz.zeroValue231
  t146 := Tryz.underlying214
  a146 := Tryz.isAgg214
  z146 := Tryz.sizeOf214
  v146 := Tryz.zeroValue214
  g1 := by kernel_rfl
  g3 := by kernel_rfl
  g4 := by kernel_rfl }
open Go.RowKit Go.Lib in
theorem Tryz.strings_Split (s sep : ByteArray) (m : Int) (w : World) (hs : s.size < 4294967281) (hm : w.cell? ⟨0, 0, none⟩ = some (.int .i64 m)) (h1 : 1 ≤ sep.size) :
    Calls Tryz.prog 50 #[.string s, .string sep] w fun e w' =>
      e = .returned (.slice (some ⟨w.heap.size, 0, none⟩) (Lib.countB s sep + 1) (Lib.countB s sep + 1)) ∧ w' = w.alloc (.cells ((Lib.splitB sep 0 (Lib.countB s sep) s).map Value.string).toArray 9) := Any.strings_Split Tryz.lays146 (by kernel_rfl) s sep m w hs hm h1
end Go.Proofs
namespace Go.Proofs.YtpndjhelpoenpaaGreatDoor
open Go.RowKit
attribute [local go_sem ↓] Go.wp_at_zero Go.wp_at_succ
theorem run_add_str {P : Program} {w : World} {d : Option Nat} {t t1 : TypeId} {ty : TypeId} {pos : String} {af : Array Edge} {gd : Option (Nat × Bool)} {a : Act} {x y : Operand} {s u : ByteArray} (hx : a.eval x = .string s) (hy : a.eval y = .string u)
  (h : s.size + u.size ≤ 9223372036854775807) : (execOp a.eval ⟨d, .binOp .add t x y t1, ty, pos, af, gd⟩).run P w = .ok (.value (.string (s ++ u))) w := by
 simp [execOp, hx, hy, binOp, eqGuard_add, run_string_add_sum w s u h, Result.andThen]
theorem run_add_strP {P : Program} {w : World} {d : Option Nat} {t t1 : TypeId} {ty : TypeId} {pos : String} {af : Array Edge} {gd : Option (Nat × Bool)} {a : Act} {x y : Operand} {v : Value}
  (h : ∃ s u : ByteArray, a.eval x = .string s ∧ a.eval y = .string u ∧ s.size + u.size ≤ 9223372036854775807 ∧ v = .string (s ++ u)) : (execOp a.eval ⟨d, .binOp .add t x y t1, ty, pos, af, gd⟩).run P w = .ok (.value v) w := by
 obtain ⟨s, u, hx, hy, h, rfl⟩ := h
 exact run_add_str hx hy h
def numB (n : Int) : ByteArray := ⟨(Lib.itoa n).toArray⟩
theorem numB_size {n : Int} (h0 : -9223372036854775808 ≤ n) (h1 : n ≤ 9223372036854775807) : (numB n).size ≤ 21 := by
 have := Lib.itoa_length_le n h0 h1
 show (Lib.itoa n).toArray.size ≤ 21
 simpa using this
theorem numB_one {n : Nat} (h : n < 10) : numB (n : Int) = ⟨#[UInt8.ofNat (48 + n)]⟩ := by
 unfold numB; rw [Lib.itoa_nonneg, Lib.decDigits_one h]
theorem dec_step (u : Nat) (h : ¬ u < 10) : Lib.decDigits u = Lib.decDigits (u / 10) ++ [UInt8.ofNat (48 + u % 10)] := by rw [Lib.decDigits, dif_neg h]
theorem numB_step {q r : Nat} (hr : r < 10) (hq : 0 < q) : numB (q : Int) ++ ⟨#[UInt8.ofNat (48 + r)]⟩ = numB ((10 * q + r : Nat) : Int) := by
 unfold numB
 rw [Lib.itoa_nonneg, Lib.itoa_nonneg]
 rw [dec_step (10 * q + r) (by omega), show (10 * q + r) / 10 = q by omega, show (10 * q + r) % 10 = r by omega]
 exact ByteArray.mk_append_mk (Lib.decDigits q) [UInt8.ofNat (48 + r)]
theorem dig_fin : ∀ p : Fin 10, ((ByteArray.mk #[48, 49, 50, 51, 52, 53, 54, 55, 56, 57]).data.toList.drop p.val).take 1 = [UInt8.ofNat (48 + p.val)] := by decide +kernel
theorem dig_one {r r1 : Nat} (h : r < 10) (h1 : r1 = r + 1) : (ByteArray.mk #[48, 49, 50, 51, 52, 53, 54, 55, 56, 57]).extract r r1 = ⟨#[UInt8.ofNat (48 + r)]⟩ := by
 subst h1
 apply ByteArray.ext
 apply Array.toList_inj.1
 rw [Lib.extract_data, show r + 1 - r = 1 by omega]
 exact dig_fin ⟨r, h⟩
def Tab (w : World) : Prop := Lib.TabIs Tryz.prog w "internal/strconv.uint64pow10" .u64 Lib.pow10Tab
theorem Tab.below {w w' : World} (h : Tab w) (hb : Below w.heap.size w w') : Tab w' := (Lib.tabBelow_of_tabIs h) w' hb
theorem decimal_any (n : Int) (h0 : -9223372036854775808 ≤ n) (h1 : n ≤ 9223372036854775807) (w : World) (ht : Tab w) :
  Calls Tryz.prog 65 #[.int .i64 n] w fun e w' => e = .returned (.string (numB n)) ∧ Below w.heap.size w w' := by
 go_enter Tryz.func65, Tryz.ntmps65
 go_wp2_with fail
 refine (Tryz.strconv_Itoa n h0 h1 w ht).mono ?_
 rintro e w1 ⟨rfl, k, os, rfl⟩
 have hb := Lib.below_grow w.heap.size w (Nat.le_refl _) k os
 generalize Sort.grow (w.drewN k) os = w2 at hb ⊢
 go_wp2
 go_ret
 exact ⟨rfl, hb⟩
theorem l1Num_nat (k : Nat) : ∀ (n : Nat) (w : World), n ≤ k → (n : Int) ≤ 9223372036854775807 →
  Calls Tryz.prog 66 #[.int .i64 n] w fun e w' => e = .returned (.string (numB n)) ∧ Below w.heap.size w w' := by
 induction k with
 | zero =>
  intro n w hk hn
  obtain rfl : n = 0 := by omega
  go_enter Tryz.func66, Tryz.ntmps66
  go_wp2_with fail
  go_ret
  exact ⟨by rw [numB_one (n := 0) (by omega)]; rfl, Below.refl _ _⟩
 | succ k ih =>
  intro n w hk hn
  have IH := lh ih
  clear ih
  by_cases h10 : n < 10
  ·have hi10 : (n : Int) < 10 := by omega
   have hi0 : ¬ ((n : Int) < 0) := by omega
   have hw1 : IntKind.i64.wrap ((n : Int) + 1) = ((n + 1 : Nat) : Int) := by rw [IntWalk.i64_in _ (by omega)]; omega
   have hn0 : (0 : Int) ≤ (n : Int) := by omega
   have hn1 : (n : Int) ≤ ((n + 1 : Nat) : Int) := by omega
   have hlei : ((n + 1 : Nat) : Int) ≤ 10 := by omega
   have hdg : ∀ r1, r1 = n + 1 → (ByteArray.mk #[48, 49, 50, 51, 52, 53, 54, 55, 56, 57]).extract n r1 = ⟨#[UInt8.ofNat (48 + n)]⟩ := fun r1 h => dig_one h10 h
   generalize hr1 : n + 1 = n1 at *
   have HD := lh (hdg n1 rfl)
   clear hdg
   go_enter Tryz.func66, Tryz.ntmps66
   go_wp2_with fail
   go_ret
   exact ⟨by rw [numB_one h10, ← HD.out]; first | rfl | simp [HD.out], Below.refl _ _⟩
  ·obtain ⟨q, r, rfl, hr⟩ : ∃ q r, n = 10 * q + r ∧ r < 10 := ⟨n / 10, n % 10, by omega, by omega⟩
   have hi10 : ¬ (((10 * q + r : Nat) : Int) < 10) := by omega
   have hi0 : ¬ (((10 * q + r : Nat) : Int) < 0) := by omega
   have hq : Int.tdiv ((10 * q + r : Nat) : Int) 10 = (q : Int) := by rw [Int.tdiv_eq_ediv_of_nonneg (by omega)]; omega
   have hrr : Int.tmod ((10 * q + r : Nat) : Int) 10 = (r : Int) := by rw [Int.tmod_eq_emod_of_nonneg (by omega)]; omega
   have hw1 : IntKind.i64.wrap ((r : Int) + 1) = ((r + 1 : Nat) : Int) := by rw [IntWalk.i64_in _ (by omega)]; omega
   have hwq : IntKind.i64.wrap (q : Int) = (q : Int) := IntWalk.i64_in _ (by omega)
   have hwr : IntKind.i64.wrap (r : Int) = (r : Int) := IntWalk.i64_in _ (by omega)
   have hr00 : (0 : Int) ≤ (r : Int) := by omega
   have hr01 : (r : Int) ≤ ((r + 1 : Nat) : Int) := by omega
   have hr02 : ((r + 1 : Nat) : Int) ≤ 10 := by omega
   have hle : r + 1 ≤ 10 := by omega
   have hsq : (numB q).size ≤ 21 := numB_size (by omega) (by omega)
   have hst : numB (q : Int) ++ ⟨#[UInt8.ofNat (48 + r)]⟩ = numB ((10 * q + r : Nat) : Int) := numB_step hr (by omega)
   have hdg : ∀ r1, r1 = r + 1 → (ByteArray.mk #[48, 49, 50, 51, 52, 53, 54, 55, 56, 57]).extract r r1 = ⟨#[UInt8.ofNat (48 + r)]⟩ := fun r1 h => dig_one hr h
   have hqk : q ≤ k := by omega
   have hqn : (q : Int) ≤ 9223372036854775807 := by omega
   have hr0 : r ≤ r + 1 := by omega
   generalize hr1 : r + 1 = r1 at *
   generalize hN : 10 * q + r = N at *
   have hdg1 : (ByteArray.mk #[48, 49, 50, 51, 52, 53, 54, 55, 56, 57]).extract r r1 = ⟨#[UInt8.ofNat (48 + r)]⟩ := hdg r1 rfl
   clear hdg
   have HF : Hid (∀ w' : World, Below w.heap.size w w' → True) := fun _ _ => trivial
   go_enter Tryz.func66, Tryz.ntmps66
   go_wp2_with fail
   refine wp_region_class (C := fun w' => Below (w).heap.size (w) w') (by kernel_rfl) (by kernel_rfl) ((Below.refl _ _).drew) ?_
   refine tr 15 HF ?_
   refine tr 16 HF ?_
   refine wpQuiet_meet (d := 17) (v := ?_) ?_ ?_ (by rfl) ?_ ?_ ?_
   rotate_left
   rotate_left
   rotate_left
   ·intro wS hS
    have eF := HF.out wS hS
    go_simp
    first | with_reducible rfl | (refine ⟨?_, ?_⟩ <;> with_reducible rfl)
   ·intro wS hS
    refine (IH.out q wS hqk hqn).mono ?_
    rintro e w2 ⟨rfl, hb2⟩
    refine ⟨?_, hS.trans (hb2.mono hS.size)⟩
    with_reducible rfl
   simp only [Act.put, p1, p2, p3]
   refine tr 18 HF ?_
   refine tr 19 HF ?_
   refine tr 20 HF ?_
   refine tr 21 HF ?_
   refine tr 22 HF ?_
   refine tr 23 HF ?_
   refine wpQuiet_take (d := 24) (v := ?_) (by rfl) ?_ ?_
   rotate_left
   ·intro wS hS
    refine run_add_strP ⟨_, _, rfl, rfl, by (try simp only [ByteArray.size_append', ByteArray.size_mk', List.size_toArray, List.length_cons, List.length_nil]); omega, ?_⟩
    with_reducible rfl
   simp only [Act.put, p1, p2, p3]
   refine tr 2 HF ?_
   refine wpQuiet_nil (fun wq jd => ?_)
   go_wp2
   go_ret
   exact ⟨by rw [← hst]; first | rfl | simp, jd⟩
theorem l1Num_any (n : Int) (h0 : 0 ≤ n) (h1 : n ≤ 9223372036854775807) (w : World) :
  Calls Tryz.prog 66 #[.int .i64 n] w fun e w' => e = .returned (.string (numB n)) ∧ Below w.heap.size w w' := by
 obtain ⟨m, rfl⟩ := Int.eq_ofNat_of_zero_le h0
 exact l1Num_nat m m w (Nat.le_refl _) h1
end Go.Proofs.YtpndjhelpoenpaaGreatDoor
namespace Go.Proofs.YtpndjhelpoenpaaGreatDoor
open Go.RowKit
theorem kp {a b : World} {p : Addr} {v : Value} (h : Below a.heap.size a b) (e : a.cell? p = some v) : b.cell? p = some v := (h.cell (World.block_lt_of_cell? _ _ e)).trans e
theorem n1 (w : World) (o : Obj) : (w.alloc o).heap[w.heap.size]? = some o := heap_alloc_new w o
theorem n2 (w : World) (o p : Obj) : ((w.alloc o).alloc p).heap[w.heap.size]? = some o := by rw [heap_alloc_old _ _ (by simp)]; exact heap_alloc_new w o
theorem n3 (w : World) (o p : Obj) : ((w.alloc o).alloc p).heap[w.heap.size + 1]? = some p := by simpa using heap_alloc_new (w.alloc o) p
theorem bl1 (w : World) (o : Obj) : Below w.heap.size w (w.alloc o) ∧ (w.alloc o).heap[w.heap.size]? = some o := ⟨(Below.refl _ w).alloc (Nat.le_refl _) _, n1 w o⟩
theorem bl2 (w : World) (o p : Obj) : Below w.heap.size w ((w.alloc o).alloc p) ∧ ((w.alloc o).alloc p).heap[w.heap.size]? = some o ∧ ((w.alloc o).alloc p).heap[w.heap.size + 1]? = some p := ⟨((Below.refl _ w).alloc (Nat.le_refl _) _).alloc (by simp) _, n2 w o p, n3 w o p⟩
theorem n4 (w : World) (o p q : Obj) : (((w.alloc o).alloc p).alloc q).heap[w.heap.size]? = some o := by rw [heap_alloc_old _ _ (by simp <;> omega)]; exact n2 w o p
theorem n5 (w : World) (o p q : Obj) : (((w.alloc o).alloc p).alloc q).heap[w.heap.size + 1]? = some p := by rw [heap_alloc_old _ _ (by simp)]; exact n3 w o p
theorem n6 (w : World) (o p q : Obj) : (((w.alloc o).alloc p).alloc q).heap[w.heap.size + 1 + 1]? = some q := by simpa using heap_alloc_new ((w.alloc o).alloc p) q
theorem bx {a b : World} {g : Nat} {o : Obj} (h : Below a.heap.size a b) (e : a.heap[g]? = some o := by first | exact n1 _ _ | exact n2 _ _ _ | exact n3 _ _ _ | exact n4 _ _ _ _ | exact n5 _ _ _ _ | exact n6 _ _ _ _) : b.heap[g]? = some o := (h.block g (Array.getElem?_eq_some_iff.1 e).1).trans e
theorem fz {w : World} {g : Nat} {cs : Array Value} {T : TypeId} (h : w.heap[g]? = some (.cells cs T (0, 0))) : ∀ j, w.frozen? ⟨g, j, none⟩ = false := fun j => frozen_of_row w g j _ _ h
theorem ba {a b : World} {o : Obj} (h : b = a.alloc o) : Below a.heap.size a b := by rw [h]; exact (Below.refl _ _).alloc (Nat.le_refl _) _
theorem an {a b : World} {o : Obj} (h : b = a.alloc o) : b.heap[a.heap.size]? = some o := by rw [h]; exact heap_alloc_new _ _
theorem bl3 (w : World) (o p q : Obj) : Below w.heap.size w (((w.alloc o).alloc p).alloc q) ∧ (((w.alloc o).alloc p).alloc q).heap[w.heap.size]? = some o ∧ (((w.alloc o).alloc p).alloc q).heap[w.heap.size + 1]? = some p ∧ (((w.alloc o).alloc p).alloc q).heap[w.heap.size + 1 + 1]? = some q := ⟨(((Below.refl _ w).alloc (Nat.le_refl _) _).alloc (by simp) _).alloc (by simp <;> omega) _, n4 w o p q, n5 w o p q, n6 w o p q⟩
theorem wq0 {u v : ByteArray} (hu : u = v) (h : (v.toList == ([108, 101, 97, 100] : List UInt8)) = false) : (u.toList == ([108, 101, 97, 100] : List UInt8)) = false := by rw [hu]; exact h
theorem wq1 {u v : ByteArray} (hu : u = v) (h : (v.toList == ([115, 104, 105, 112] : List UInt8)) = false) : (u.toList == ([115, 104, 105, 112] : List UInt8)) = false := by rw [hu]; exact h
theorem wq2 {u v : ByteArray} (hu : u = v) (h : (v.toList == ([114, 97, 107, 101] : List UInt8)) = false) : (u.toList == ([114, 97, 107, 101] : List UInt8)) = false := by rw [hu]; exact h
theorem wq3 {u v : ByteArray} (hu : u = v) (h : (v.toList == ([115, 104, 117, 116] : List UInt8)) = false) : (u.toList == ([115, 104, 117, 116] : List UInt8)) = false := by rw [hu]; exact h
theorem wq4 {u v : ByteArray} (hu : u = v) (h : (v.toList == ([98, 117, 105, 108, 100] : List UInt8)) = false) : (u.toList == ([98, 117, 105, 108, 100] : List UInt8)) = false := by rw [hu]; exact h
theorem wq5 {u v : ByteArray} (hu : u = v) (h : (v.toList == ([116, 97, 107, 101] : List UInt8)) = false) : (u.toList == ([116, 97, 107, 101] : List UInt8)) = false := by rw [hu]; exact h
theorem wq6 {u v : ByteArray} (hu : u = v) (h : (v.toList == ([104, 101, 97, 112] : List UInt8)) = false) : (u.toList == ([104, 101, 97, 112] : List UInt8)) = false := by rw [hu]; exact h
theorem wq7 {u v : ByteArray} (hu : u = v) (h : (v.toList == ([105, 110] : List UInt8)) = false) : (u.toList == ([105, 110] : List UInt8)) = false := by rw [hu]; exact h
theorem wq8 {u v : ByteArray} (hu : u = v) (h : (v.toList == ([100, 114, 121] : List UInt8)) = false) : (u.toList == ([100, 114, 121] : List UInt8)) = false := by rw [hu]; exact h
theorem wq9 {u v : ByteArray} (hu : u = v) (h : (v.toList == ([112, 97, 110, 115] : List UInt8)) = false) : (u.toList == ([112, 97, 110, 115] : List UInt8)) = false := by rw [hu]; exact h
theorem wq10 {u v : ByteArray} (hu : u = v) (h : (v.toList == ([109, 97, 121] : List UInt8)) = false) : (u.toList == ([109, 97, 121] : List UInt8)) = false := by rw [hu]; exact h
theorem wq11 {u v : ByteArray} (hu : u = v) (h : (v.toList == ([111, 114, 100, 101, 114] : List UInt8)) = false) : (u.toList == ([111, 114, 100, 101, 114] : List UInt8)) = false := by rw [hu]; exact h
theorem wq12 {u v : ByteArray} (hu : u = v) (h : (v.toList == ([109, 111, 114, 101] : List UInt8)) = false) : (u.toList == ([109, 111, 114, 101] : List UInt8)) = false := by rw [hu]; exact h
theorem within_any (n lo hi : Int) (w : World) : Calls Tryz.prog 70 #[.int .i64 n, .int .i64 lo, .int .i64 hi] w fun e w' => e = .returned (.bool (inR n lo hi)) ∧ w = w' := by
 go_enter Tryz.func70, Tryz.ntmps70
 go_wp2
 all_goals
  go_ret
  refine ⟨ret_bool ?_, rfl⟩
  rw [Bool.eq_iff_iff]
  simp only [inR, decide_eq_true_eq, Bool.false_eq_true, true_iff, false_iff, eq_self, or_true, true_and]
  omega
theorem l1In_any (n lo hi : Int) (w : World) : Calls Tryz.prog 126 #[.int .i64 n, .int .i64 lo, .int .i64 hi] w fun e w' => e = .returned (.bool (inR n lo hi)) ∧ w = w' := by
 go_enter Tryz.func126, Tryz.ntmps126
 go_wp2
 all_goals
  go_ret
  refine ⟨ret_bool ?_, rfl⟩
  rw [Bool.eq_iff_iff]
  simp only [inR, decide_eq_true_eq, Bool.false_eq_true, true_iff, false_iff, eq_self, or_true, true_and]
  omega
theorem isId_any (n : Int) (w : World) : Calls Tryz.prog 119 #[.int .i64 n] w fun e w' => e = .returned (.bool (inR n 1 99)) ∧ w = w' := by
 go_enter Tryz.func119, Tryz.ntmps119
 go_wp2
 all_goals
  go_ret
  refine ⟨ret_bool ?_, rfl⟩
  rw [Bool.eq_iff_iff]
  simp only [inR, decide_eq_true_eq, Bool.false_eq_true, true_iff, false_iff, eq_self, or_true, true_and]
  omega
theorem isKilos_any (n : Int) (w : World) : Calls Tryz.prog 118 #[.int .i64 n] w fun e w' => e = .returned (.bool (inR n 0 1000000)) ∧ w = w' := by
 go_enter Tryz.func118, Tryz.ntmps118
 go_wp2
 all_goals
  go_ret
  refine ⟨ret_bool ?_, rfl⟩
  rw [Bool.eq_iff_iff]
  simp only [inR, decide_eq_true_eq, Bool.false_eq_true, true_iff, false_iff, eq_self, or_true, true_and]
  omega
theorem l21Kilos_any (n : Int) (w : World) : Calls Tryz.prog 124 #[.int .i64 n] w fun e w' => e = .returned (.bool (inR n 0 1000000)) ∧ w = w' := by
 go_enter Tryz.func124, Tryz.ntmps124
 go_wp2
 all_goals
  go_ret
  refine ⟨ret_bool ?_, rfl⟩
  rw [Bool.eq_iff_iff]
  simp only [inR, decide_eq_true_eq, Bool.false_eq_true, true_iff, false_iff, eq_self, or_true, true_and]
  omega
attribute [local go_sem ↓] Go.wp_at_zero Go.wp_at_succ
theorem getD_lt {l : List UInt8} {k : Nat} (h : k < l.length) : l.getD k 0 = l[k] := by simp [List.getD, h]
def byteAt (s : ByteArray) (k : Nat) : UInt8 := s.data.toList.getD k 0
theorem byteAt_eq (s : ByteArray) (k : Nat) (h : k < s.size) : s[k]'h = byteAt s k := by
 unfold byteAt
 have h' : k < s.data.toList.length := by rw [Array.length_toList]; exact h
 rw [getD_lt h', Array.getElem_toList]
 rfl
def plainB (c : UInt8) : Bool := decide (32 ≤ c.toNat ∧ c.toNat ≤ 126 ∧ c.toNat ≠ 35)
def plain (s : ByteArray) : Bool := allTo (fun j => plainB (byteAt s j)) s.size
def noByte (s : ByteArray) (c : UInt8) : Bool := allTo (fun j => decide (byteAt s j ≠ c)) s.size
theorem allTo_iff {p : Nat → Bool} : ∀ {n : Nat}, allTo p n = true ↔ ∀ k, k < n → p k = true := by
 intro n
 constructor
 ·intro h k hk; exact allTo_at hk h
 ·induction n with
  | zero => intro _; rfl
  | succ n ih => intro h; exact allTo_succ (ih (fun k hk => h k (by omega))) (h n (by omega))
theorem noByte_iff (s : ByteArray) (c : UInt8) : noByte s c = true ↔ c ∉ s.data.toList := by
 unfold noByte
 rw [allTo_iff]
 constructor
 ·intro h hm
  obtain ⟨k, hk, e⟩ := List.getElem_of_mem hm
  have h1 := h k (by rw [Array.length_toList] at hk; exact hk)
  simp only [decide_eq_true_eq] at h1
  exact h1 (by unfold byteAt; rw [getD_lt hk]; exact e)
 ·intro h k hk
  simp only [decide_eq_true_eq]
  intro e
  have h' : k < s.data.toList.length := by rw [Array.length_toList]; exact hk
  exact h (by rw [← e]; unfold byteAt; rw [getD_lt h']; exact List.getElem_mem h')
theorem noByte_index (s : ByteArray) (c : UInt8) : decide (0 ≤ Lib.indexByte s.data.toList c) = !noByte s c := by
 rw [← Lib.contains_iff_indexByte]
 cases h : noByte s c with
 | true => simpa using (noByte_iff s c).1 h
 | false =>
  have h1 : ¬ (c ∉ s.data.toList) := fun hn => by rw [(noByte_iff s c).2 hn] at h; cases h
  simpa using h1
def goodRec (c r : ByteArray) : Bool := decide (1 ≤ c.size ∧ c.size ≤ 160) && decide (r.size ≤ 200) && plain c && plain r && noByte c 64
theorem isPlain_any (s : ByteArray) (hs : (s.size : Int) ≤ 9223372036854775807) (w : World) :
  Calls Tryz.prog 91 #[.string s] w fun e w' => e = .returned (.bool (plain s)) ∧ w = w' := by
 go_enter Tryz.func91, Tryz.ntmps91
 go_wp2_with fail
 go_loop [6] (fun i => ∃ k : Nat, k ≤ s.size ∧ i = .int .i64 k ∧ Hid (allTo (fun j => plainB (byteAt s j)) k = true)) (fun i => s.size - (intOf i).toNat)
 case atStart => exact ⟨0, Nat.zero_le _, rfl, rfl⟩
 case round =>
  obtain ⟨k, hk, rfl, hall⟩ := hrel
  by_cases hlt : k < s.size
  ·have hbk := byteAt_eq s k hlt
   have hk0 : (0 : Int) ≤ (k : Int) ∧ (k : Int) < (s.size : Int) := by omega
   obtain ⟨hk0, hk1⟩ := hk0
   cases hp : plainB (byteAt s k) with
   | false =>
    have hno : Hid (allTo (fun j => plainB (byteAt s j)) s.size = false) := allTo_false hlt hp
    generalize byteAt s k = c at hbk hp
    simp only [plainB, decide_eq_false_iff_not] at hp
    have hp' : ¬ (32 ≤ c.toNat) ∨ ¬ (c.toNat ≤ 126) ∨ c.toNat = 35 := by omega
    clear hp
    have hcc : c.toNat < 256 := UInt8.toNat_lt c
    go_wp2_with (fail)
    all_goals
     first
     | (go_ret; exact ⟨ret_bool (by rw [plain]; exact hno.out.symm), rfl⟩)
     | (exfalso; omega)
   | true =>
    have hyes : Hid (allTo (fun j => plainB (byteAt s j)) (k + 1) = true) := allTo_succ hall.out hp
    generalize byteAt s k = c at hbk hp
    simp only [plainB, decide_eq_true_eq] at hp
    obtain ⟨hp1, hp2, hp3⟩ := hp
    have hq1 : (32 : Int) ≤ (c.toNat : Int) := by omega
    have hq2 : (c.toNat : Int) ≤ 126 := by omega
    have hq3 : (c.toNat : Int) ≠ 35 := by omega
    have hcc : c.toNat < 256 := UInt8.toNat_lt c
    go_wp2_with (fail)
    go_round
    case rel => exact ⟨k + 1, by omega, by go_num, hyes⟩
    case measure => simp [intOf]; omega
  ·obtain rfl : k = s.size := by omega
   go_wp2_with fail
   go_ret
   exact ⟨ret_bool (by rw [plain]; exact hall.out.symm), rfl⟩
theorem l27Plain_any (s : ByteArray) (m : Int) (hs : (s.size : Int) ≤ 9223372036854775807) (w : World) :
  Calls Tryz.prog 81 #[.string s, .int .i64 m] w fun e w' => e = .returned (.bool (plain s && decide ((s.size : Int) ≤ m))) ∧ w = w' := by
 go_enter Tryz.func81, Tryz.ntmps81
 go_wp2_with fail
 go_loop [5] (fun i => ∃ k : Nat, k ≤ s.size ∧ i = .int .i64 k ∧ Hid (allTo (fun j => plainB (byteAt s j)) k = true)) (fun i => s.size - (intOf i).toNat)
 case atStart => exact ⟨0, Nat.zero_le _, rfl, rfl⟩
 case round =>
  obtain ⟨k, hk, rfl, hall⟩ := hrel
  by_cases hlt : k < s.size
  ·have hbk := byteAt_eq s k hlt
   have hk0 : (0 : Int) ≤ (k : Int) ∧ (k : Int) < (s.size : Int) := by omega
   obtain ⟨hk0, hk1⟩ := hk0
   cases hp : plainB (byteAt s k) with
   | false =>
    have hno : Hid (allTo (fun j => plainB (byteAt s j)) s.size = false) := allTo_false hlt hp
    generalize byteAt s k = c at hbk hp
    simp only [plainB, decide_eq_false_iff_not] at hp
    have hp' : ¬ (32 ≤ c.toNat) ∨ ¬ (c.toNat ≤ 126) ∨ c.toNat = 35 := by omega
    clear hp
    have hin : inR (c.toNat : Int) 32 126 = decide (32 ≤ c.toNat ∧ c.toNat ≤ 126) := by rw [Bool.eq_iff_iff]; simp only [inR, decide_eq_true_eq]; omega
    have hcc : c.toNat < 256 := UInt8.toNat_lt c
    go_wp2_with (go_at_call 126; refine (l1In_any _ _ _ _).mono ?_; rintro e w3 ⟨rfl, rfl⟩)
    all_goals
     first
     | (go_ret; exact ⟨ret_bool (by rw [plain, hno.out]; rfl), rfl⟩)
     | (exfalso; omega)
   | true =>
    have hyes : Hid (allTo (fun j => plainB (byteAt s j)) (k + 1) = true) := allTo_succ hall.out hp
    generalize byteAt s k = c at hbk hp
    simp only [plainB, decide_eq_true_eq] at hp
    obtain ⟨hp1, hp2, hp3⟩ := hp
    have hq1 : (32 : Int) ≤ (c.toNat : Int) := by omega
    have hq2 : (c.toNat : Int) ≤ 126 := by omega
    have hq3 : (c.toNat : Int) ≠ 35 := by omega
    have hin : inR (c.toNat : Int) 32 126 = true := by simp only [inR, decide_eq_true_eq]; omega
    have hcc : c.toNat < 256 := UInt8.toNat_lt c
    go_wp2_with (go_at_call 126; refine (l1In_any _ _ _ _).mono ?_; rintro e w3 ⟨rfl, rfl⟩)
    go_round
    case rel => exact ⟨k + 1, by omega, by go_num, hyes⟩
    case measure => simp [intOf]; omega
  ·obtain rfl : k = s.size := by omega
   go_wp2_with fail
   go_ret
   exact ⟨ret_bool (by rw [plain, hall.out, Bool.true_and]), rfl⟩
theorem l1Stands_any (s : ByteArray) (b : UInt8) (hs : (s.size : Int) ≤ 9223372036854775807) (w : World) :
  Calls Tryz.prog 82 #[.string s, .int .u8 (b.toNat : Int)] w fun e w' => e = .returned (.bool (!noByte s b)) ∧ w = w' := by
 go_enter Tryz.func82, Tryz.ntmps82
 go_wp2_with fail
 go_loop [5] (fun i => ∃ k : Nat, k ≤ s.size ∧ i = .int .i64 k ∧ Hid (allTo (fun j => decide (byteAt s j ≠ b)) k = true)) (fun i => s.size - (intOf i).toNat)
 case atStart => exact ⟨0, Nat.zero_le _, rfl, rfl⟩
 case round =>
  obtain ⟨k, hk, rfl, hall⟩ := hrel
  by_cases hlt : k < s.size
  ·have hbk := byteAt_eq s k hlt
   have hk0 : (0 : Int) ≤ (k : Int) ∧ (k : Int) < (s.size : Int) := by omega
   obtain ⟨hk0, hk1⟩ := hk0
   by_cases hp : byteAt s k = b
   ·have hno : Hid (noByte s b = false) := allTo_false hlt (by simp [hp])
    rw [hp] at hbk
    clear hp hall
    go_wp2_with fail
    go_ret
    exact ⟨ret_bool (by rw [hno.out]; rfl), rfl⟩
   ·have hyes : Hid (allTo (fun j => decide (byteAt s j ≠ b)) (k + 1) = true) := allTo_succ hall.out (by simp [hp])
    have hne : byteAt s k ≠ b := hp
    clear hp hall
    generalize byteAt s k = c at hbk hne
    have hn2 : c.toNat ≠ b.toNat := fun e => hne (UInt8.toNat_inj.1 e)
    have hn3 : ((c.toNat : Int) == (b.toNat : Int)) = false := by simp; omega
    go_wp2_with fail
    go_round
    case rel => exact ⟨k + 1, by omega, by go_num, hyes⟩
    case measure => simp [intOf]; omega
  ·obtain rfl : k = s.size := by omega
   go_wp2_with fail
   go_ret
   exact ⟨ret_bool (by unfold noByte; rw [hall.out]; rfl), rfl⟩
theorem IsValidRecord_any (c r : ByteArray) (hc : (c.size : Int) ≤ 9223372036854775807) (hr : (r.size : Int) ≤ 9223372036854775807) (w : World) :
  Calls Tryz.prog 48 #[.agg #[.string c, .string r]] w fun e w' => e = .returned (.bool (goodRec c r)) ∧ Below w.heap.size w w' := by
 have HAL : Below w.heap.size w (w.alloc (.cells #[.string c, .string r] 70)) := (Below.refl _ w).alloc (Nat.le_refl _) _
 have hin : inR (c.size : Int) 1 160 = decide (1 ≤ c.size ∧ c.size ≤ 160) := by rw [Bool.eq_iff_iff]; simp only [inR, decide_eq_true_eq]; omega
 have hix := noByte_index c 64
 have hg : goodRec c r = (decide (1 ≤ c.size ∧ c.size ≤ 160) && decide (r.size ≤ 200) && plain c && plain r && noByte c 64) := rfl
 have HG := lh hg
 clear hg
 generalize hA : decide (1 ≤ c.size ∧ c.size ≤ 160) = bA at hin HG
 clear hA
 go_enter Tryz.func48, Tryz.ntmps48
 go_wp2_with (first | (go_at_call 70; refine (within_any _ _ _ _).mono ?_; rw [hin]; rintro e w3 ⟨rfl, rfl⟩) | (go_at_call 91; refine (isPlain_any _ (by assumption) _).mono ?_; rintro e w3 ⟨rfl, rfl⟩) | (go_at_call 92; refine (Tryz.strings_Contains_one _ 64 _).mono ?_; rw [hix]; rintro e w3 ⟨rfl, rfl⟩))
 all_goals
  go_ret
  exact ⟨ret_bool (by rw [HG.out]; cases h1 : plain c <;> cases h2 : noByte c 64 <;> cases h3 : plain r <;> cases h4 : bA <;> simp_all <;> omega), HAL⟩
theorem l27Good_any (c r : ByteArray) (hc : (c.size : Int) ≤ 9223372036854775807) (hr : (r.size : Int) ≤ 9223372036854775807) (w : World) :
  Calls Tryz.prog 43 #[.agg #[.string c, .string r]] w fun e w' => e = .returned (.bool (goodRec c r)) ∧ Below w.heap.size w w' := by
 have HAL : Below w.heap.size w (w.alloc (.cells #[.string c, .string r] 70)) := (Below.refl _ w).alloc (Nat.le_refl _) _
 by_cases h0 : c = ⟨#[]⟩
 ·subst h0
  have hg : goodRec ⟨#[]⟩ r = false := by unfold goodRec; rfl
  go_enter Tryz.func43, Tryz.ntmps43
  go_wp2_with fail
  go_ret
  exact ⟨ret_bool hg.symm, HAL⟩
 ·have h1 : 1 ≤ c.size := by
   rcases Nat.eq_zero_or_pos c.size with h | h
   ·exact absurd (ByteArray.ext (Array.eq_empty_of_size_eq_zero h)) h0
   ·exact h
  have hg : goodRec c r = ((plain c && decide ((c.size : Int) ≤ 160)) && noByte c 64 && (plain r && decide ((r.size : Int) ≤ 200))) := by
   unfold goodRec
   rw [Bool.eq_iff_iff]
   simp only [Bool.and_eq_true, decide_eq_true_eq]
   constructor
   ·rintro ⟨⟨⟨⟨a, b⟩, c⟩, d⟩, e⟩; exact ⟨⟨⟨c, by omega⟩, e⟩, d, by omega⟩
   ·rintro ⟨⟨⟨a, b⟩, c⟩, d, e⟩; exact ⟨⟨⟨⟨by omega, by omega⟩, a⟩, d⟩, c⟩
  have hnl : c.toList ≠ [] := by
   rw [ByteArray.toList_eq]
   intro e
   exact h0 (ByteArray.ext (Array.toList_inj.1 (by simpa using e)))
  have hne : (c.toList == []) = false := by
   cases hcl : c.toList with
   | nil => exact absurd hcl hnl
   | cons a l => rfl
  have HG := lh hg
  clear hg h1
  go_enter Tryz.func43, Tryz.ntmps43
  go_wp2_with (first | (go_at_call 81; refine (l27Plain_any _ _ (by assumption) _).mono ?_; rintro e w3 ⟨rfl, rfl⟩) | (go_at_call 82; refine (l1Stands_any _ 64 (by assumption) _).mono ?_; rintro e w3 ⟨rfl, rfl⟩))
  all_goals
   go_ret
   exact ⟨ret_bool (by rw [HG.out]; cases h1 : plain c <;> cases h2 : noByte c 64 <;> cases h3 : plain r <;> simp_all <;> omega), HAL⟩
end Go.Proofs.YtpndjhelpoenpaaGreatDoor
