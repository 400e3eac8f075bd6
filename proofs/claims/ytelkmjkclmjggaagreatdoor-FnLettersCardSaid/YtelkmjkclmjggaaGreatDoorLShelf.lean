/- The contracts of the library that the claim uses, laid for this program by the kit's own tools (no command of the shelf's). -/
import Derived.Shelf.Strings.Builder1
import Derived.Shelf.Strings.BuilderF
import Derived.Shelf.Strings.BuilderK
import Derived.Shelf.Utf8.RuneCount
import Derived.Shelf.Strconv.Atoi
import Derived.Shelf.Strconv.Itoa0
import Derived.Shelf.Strconv.Itoa1
import Derived.Shelf.LaysM
import Derived.Shelf.Strconv.Itoa2
import Derived.Shelf.Strconv.Itoa3
import Derived.Shelf.Strconv.AtoiErrFast
import Derived.Shelf.Strconv.ParseIntEmpty
import Derived.Shelf.Strconv.AtoiFail
import Derived.Shelf.Strconv.Clone
import Derived.Shelf.Strconv.SyntaxError
import Derived.Shelf.LaysC
import Derived.Shelf.Strconv.ToError
import Derived.Shelf.Strconv.Lower
import Derived.Shelf.Strconv.ParseUint10
import Derived.Shelf.Strconv.ParseUint10Empty
import Derived.Shelf.Strconv.ParseUint10Any
import Derived.Shelf.Strconv.ParseInt10
import Derived.Shelf.Strconv.AtoiLong
import Derived.Shelf.Strconv.AtoiInnerAll
import Derived.Shelf.Strconv.RangeError
import Derived.Shelf.Strconv.ToErrorRange
import Derived.Shelf.Strconv.AtoiAll
import Derived.Shelf.Strconv.ErrVarAll
import Derived.Shelf.Strings.Search1
import Derived.Shelf.Strings.Search2
import Derived.Shelf.Strings.Search3
import Derived.Shelf.Strings.Cut
import Derived.Shelf.Strings.Count
import Derived.Shelf.Strings.Shaped
import Derived.Shelf.Strings.Split
import Derived.Shelf.Strings.SplitShaped
import Derived.Shelf.Unicode.Decode
import Derived.Shelf.Strings.RuneCount
import Derived.Shelf.Strings.Explode
import Derived.Shelf.Bits.Mul64
import Derived.Shelf.Unicode.DecodeSlow
import Derived.Shelf.Unicode.DecodeAny
import Derived.Shelf.Slices.Reverse
import Derived.Ground.Names2Prog
import Derived.Shelf.Slices.Clone
import Derived.Shelf.Slices.SearchI
import Derived.Shelf.Slices.Cells
import Derived.Shelf.Slices.Empties
import Derived.Ground.SlgnProg
import Derived.Shelf.SlicesE.Clone
import Derived.Test.YtelkmjkclmjggaaGreatDoorProg

namespace Go.Proofs
open Go.Shelf
def Tryz.laysM171_ren : Go.Shelf.Ren := ⟨fun | 171 => 169 | 243 => 252 | 246 => 307 | 283 => 347 | 284 => 348 | 285 => 349 | 286 => 350 | 129 => 371 | 317 => 370 | 318 => 372 | 319 => 373 | 320 => 374 | 337 => 386 | 338 => 387 | n => n, fun | 3 => 3 | 9 => 9 | 2 => 2 | 4 => 4 | 171 => 362 | 0 => 0 | 53 => 304 | 37 => 22 | 5 => 5 | 173 => 365 | 212 => 384 | 51 => 301 | 20 => 20 | 213 => 385 | 46 => 230 | 232 => 405 | 233 => 406 | n => n, fun | 17 => 1 | 18 => 6 | 19 => 7 | n => n⟩
theorem Tryz.laysM171 : Go.Proofs.LaysM.n171 Tryz.prog Tryz.laysM171_ren := {
  mixed := by kernel_rfl
  f129 := Tryz.func371.trans (congrArg some (by kernel_rfl))
  f171 := Tryz.func169.trans (congrArg some (by kernel_rfl))
  f243 := Tryz.func252.trans (congrArg some (by kernel_rfl))
  f246 := Tryz.func307.trans (congrArg some (by kernel_rfl))
  f283 := Tryz.func347.trans (congrArg some (by kernel_rfl))
  f284 := Tryz.func348.trans (congrArg some (by kernel_rfl))
  f285 := Tryz.func349.trans (congrArg some (by kernel_rfl))
  f286 := Tryz.func350.trans (congrArg some (by kernel_rfl))
  f317 := Tryz.func370.trans (congrArg some (by kernel_rfl))
  f318 := Tryz.func372.trans (congrArg some (by kernel_rfl))
  f319 := Tryz.func373.trans (congrArg some (by kernel_rfl))
  f320 := Tryz.func374.trans (congrArg some (by kernel_rfl))
  f337 := Tryz.func386.trans (congrArg some (by kernel_rfl))
  f338 := Tryz.func387.trans (congrArg some (by kernel_rfl))
  t0 := Tryz.underlying0
  a0 := Tryz.isAgg0
  z0 := Tryz.sizeOf0
  v0 := Tryz.zeroValue0
  t2 := Tryz.underlying2
  a2 := Tryz.isAgg2
  z2 := Tryz.sizeOf2
  v2 := Tryz.zeroValue2
  t3 := Tryz.underlying3
  a3 := Tryz.isAgg3
  z3 := Tryz.sizeOf3
  v3 := Tryz.zeroValue3
  t4 := Tryz.underlying4
  a4 := Tryz.isAgg4
  z4 := Tryz.sizeOf4
  v4 := Tryz.zeroValue4
  t5 := Tryz.underlying5
  a5 := Tryz.isAgg5
  z5 := Tryz.sizeOf5
  v5 := Tryz.zeroValue5
  t9 := Tryz.underlying9
  a9 := Tryz.isAgg9
  z9 := Tryz.sizeOf9
  v9 := Tryz.zeroValue9
  t20 := Tryz.underlying20
  a20 := Tryz.isAgg20
  z20 := Tryz.sizeOf20
  v20 := Tryz.zeroValue20
  t37 := Tryz.underlying22
  a37 := Tryz.isAgg22
  z37 := Tryz.sizeOf22
  v37 := Tryz.zeroValue22
  t46 := Tryz.underlying230
  a46 := Tryz.isAgg230
  z46 := Tryz.sizeOf230
  v46 := Tryz.zeroValue230
  t51 := Tryz.underlying301
  a51 := Tryz.isAgg301
  z51 := Tryz.sizeOf301
  v51 := Tryz.zeroValue301
  t53 := Tryz.underlying304
  a53 := Tryz.isAgg304
  z53 := Tryz.sizeOf304
  v53 := Tryz.zeroValue304
  t171 := Tryz.underlying362
  a171 := Tryz.isAgg362
  z171 := Tryz.sizeOf362
  v171 := Tryz.zeroValue362
  t173 := Tryz.underlying365
  a173 := Tryz.isAgg365
  z173 := Tryz.sizeOf365
  v173 := Tryz.zeroValue365
  t212 := Tryz.underlying384
  a212 := Tryz.isAgg384
  z212 := Tryz.sizeOf384
  v212 := Tryz.zeroValue384
  t213 := Tryz.underlying385
  a213 := Tryz.isAgg385
  z213 := Tryz.sizeOf385
  t232 := Tryz.underlying405
  a232 := Tryz.isAgg405
  z232 := Tryz.sizeOf405
  v232 := Tryz.zeroValue405
  t233 := Tryz.underlying406
  a233 := Tryz.isAgg406
  z233 := Tryz.sizeOf406
  v233 := Tryz.zeroValue406
  g17 := by kernel_rfl
  g18 := by kernel_rfl
  g19 := by kernel_rfl
  i0 := by kernel_rfl
  i2 := by kernel_rfl
  i3 := by kernel_rfl
  i4 := by kernel_rfl
  i5 := by kernel_rfl
  i9 := by kernel_rfl
  i20 := by kernel_rfl
  i37 := by kernel_rfl
  i46 := by kernel_rfl
  i51 := by kernel_rfl
  i53 := by kernel_rfl
  i171 := by kernel_rfl
  i173 := by kernel_rfl
  i212 := by kernel_rfl
  i232 := by kernel_rfl
  i233 := by kernel_rfl
  m17 := by kernel_rfl
  m18 := by kernel_rfl
  m19 := by kernel_rfl }
open Go.RowKit Go.Sort Go.Lib in
/-- strconv.Itoa: "Itoa is equivalent to FormatInt(int64(i), 10).": i's DECIMAL NUMERAL ('Lib.itoa': a '-' where i is negative, then the digits), FOR EVERY int. The world behind the call: the world before it, new blocks behind the heap (the library's 'var a [24]byte'), draws. (LAID: no walk: one application.) -/
theorem Tryz.strconv_Itoa (n : Int) (h0 : -9223372036854775808 ≤ n) (h1 : n ≤ 9223372036854775807) (w : World) (htab : Lib.TabIs Tryz.prog w "internal/strconv.uint64pow10" .u64 Lib.pow10Tab) :
    Calls Tryz.prog 169 #[.int .i64 n] w fun e w' => e = .returned (.string ⟨(Lib.itoa n).toArray⟩) ∧ ∃ k os, w' = grow (w.drewN k) os := Any.strconv_Itoa Tryz.laysM171 n h0 h1 w htab
def Tryz.laysC172_ren : Go.Shelf.Ren := ⟨fun | 172 => 255 | 244 => 310 | 245 => 311 | 247 => 354 | 279 => 355 | 280 => 356 | 281 => 357 | 282 => 358 | 287 => 376 | 316 => 377 | 171 => 169 | 205 => 378 | 321 => 388 | 322 => 389 | 243 => 252 | 246 => 307 | 283 => 347 | 284 => 348 | 285 => 349 | 286 => 350 | 129 => 371 | 317 => 370 | 318 => 372 | 319 => 373 | 320 => 374 | 337 => 386 | 338 => 387 | n => n, fun | 9 => 9 | 3 => 3 | 75 => 289 | 76 => 290 | 4 => 4 | 5 => 5 | 167 => 369 | 37 => 22 | 0 => 0 | 85 => 370 | 2 => 2 | 168 => 372 | 53 => 304 | 175 => 387 | 46 => 230 | 210 => 390 | 127 => 376 | 145 => 403 | 143 => 401 | 21 => 21 | 171 => 362 | 173 => 365 | 212 => 384 | 51 => 301 | 20 => 20 | 213 => 385 | 232 => 405 | 233 => 406 | 80 => 345 | n => n, fun | 15 => 2 | 16 => 3 | 17 => 1 | 18 => 6 | 19 => 7 | n => n⟩
theorem Tryz.laysC172 : Go.Proofs.LaysC.n172 Tryz.prog Tryz.laysC172_ren := {
  mixed := by kernel_rfl
  f129 := Tryz.func371.trans (congrArg some (by kernel_rfl))
  f171 := Tryz.func169.trans (congrArg some (by kernel_rfl))
  f172 := Tryz.func255.trans (congrArg some (by kernel_rfl))
  f205 := Tryz.func378.trans (congrArg some (by kernel_rfl))
  f243 := Tryz.func252.trans (congrArg some (by kernel_rfl))
  f244 := Tryz.func310.trans (congrArg some (by kernel_rfl))
  f245 := Tryz.func311.trans (congrArg some (by kernel_rfl))
  f246 := Tryz.func307.trans (congrArg some (by kernel_rfl))
  f247 := Tryz.func354.trans (congrArg some (by kernel_rfl))
  f279 := Tryz.func355.trans (congrArg some (by kernel_rfl))
  f280 := Tryz.func356.trans (congrArg some (by kernel_rfl))
  f281 := Tryz.func357.trans (congrArg some (by kernel_rfl))
  f282 := Tryz.func358.trans (congrArg some (by kernel_rfl))
  f283 := Tryz.func347.trans (congrArg some (by kernel_rfl))
  f284 := Tryz.func348.trans (congrArg some (by kernel_rfl))
  f285 := Tryz.func349.trans (congrArg some (by kernel_rfl))
  f286 := Tryz.func350.trans (congrArg some (by kernel_rfl))
  f287 := Tryz.func376.trans (congrArg some (by kernel_rfl))
  f316 := Tryz.func377.trans (congrArg some (by kernel_rfl))
  f317 := Tryz.func370.trans (congrArg some (by kernel_rfl))
  f318 := Tryz.func372.trans (congrArg some (by kernel_rfl))
  f319 := Tryz.func373.trans (congrArg some (by kernel_rfl))
  f320 := Tryz.func374.trans (congrArg some (by kernel_rfl))
  f321 := Tryz.func388.trans (congrArg some (by kernel_rfl))
  f322 := Tryz.func389.trans (congrArg some (by kernel_rfl))
  f337 := Tryz.func386.trans (congrArg some (by kernel_rfl))
  f338 := Tryz.func387.trans (congrArg some (by kernel_rfl))
  t0 := Tryz.underlying0
  a0 := Tryz.isAgg0
  z0 := Tryz.sizeOf0
  v0 := Tryz.zeroValue0
  t2 := Tryz.underlying2
  a2 := Tryz.isAgg2
  z2 := Tryz.sizeOf2
  v2 := Tryz.zeroValue2
  t3 := Tryz.underlying3
  a3 := Tryz.isAgg3
  z3 := Tryz.sizeOf3
  v3 := Tryz.zeroValue3
  t4 := Tryz.underlying4
  a4 := Tryz.isAgg4
  z4 := Tryz.sizeOf4
  v4 := Tryz.zeroValue4
  t5 := Tryz.underlying5
  a5 := Tryz.isAgg5
  z5 := Tryz.sizeOf5
  v5 := Tryz.zeroValue5
  t9 := Tryz.underlying9
  a9 := Tryz.isAgg9
  z9 := Tryz.sizeOf9
  v9 := Tryz.zeroValue9
  t20 := Tryz.underlying20
  a20 := Tryz.isAgg20
  z20 := Tryz.sizeOf20
  v20 := Tryz.zeroValue20
  t21 := Tryz.underlying21
  a21 := Tryz.isAgg21
  z21 := Tryz.sizeOf21
  v21 := Tryz.zeroValue21
  t37 := Tryz.underlying22
  a37 := Tryz.isAgg22
  z37 := Tryz.sizeOf22
  v37 := Tryz.zeroValue22
  t46 := Tryz.underlying230
  a46 := Tryz.isAgg230
  z46 := Tryz.sizeOf230
  v46 := Tryz.zeroValue230
  t51 := Tryz.underlying301
  a51 := Tryz.isAgg301
  z51 := Tryz.sizeOf301
  v51 := Tryz.zeroValue301
  t53 := Tryz.underlying304
  a53 := Tryz.isAgg304
  z53 := Tryz.sizeOf304
  v53 := Tryz.zeroValue304
  t75 := Tryz.underlying289
  a75 := Tryz.isAgg289
  z75 := Tryz.sizeOf289
  v75 := Tryz.zeroValue289
  t76 := Tryz.underlying290
  a76 := Tryz.isAgg290
  z76 := Tryz.sizeOf290
  v76 := Tryz.zeroValue290
  t85 := Tryz.underlying370
  a85 := Tryz.isAgg370
  z85 := Tryz.sizeOf370
  v85 := Tryz.zeroValue370
  t127 := Tryz.underlying376
  a127 := Tryz.isAgg376
  z127 := Tryz.sizeOf376
  v127 := Tryz.zeroValue376
  t143 := Tryz.underlying401
  a143 := Tryz.isAgg401
  z143 := Tryz.sizeOf401
  v143 := Tryz.zeroValue401
  t145 := Tryz.underlying403
  a145 := Tryz.isAgg403
  z145 := Tryz.sizeOf403
  v145 := Tryz.zeroValue403
  t167 := Tryz.underlying369
  a167 := Tryz.isAgg369
  z167 := Tryz.sizeOf369
  v167 := Tryz.zeroValue369
  t168 := Tryz.underlying372
  a168 := Tryz.isAgg372
  z168 := Tryz.sizeOf372
  v168 := Tryz.zeroValue372
  t171 := Tryz.underlying362
  a171 := Tryz.isAgg362
  z171 := Tryz.sizeOf362
  v171 := Tryz.zeroValue362
  t173 := Tryz.underlying365
  a173 := Tryz.isAgg365
  z173 := Tryz.sizeOf365
  v173 := Tryz.zeroValue365
  t175 := Tryz.underlying387
  a175 := Tryz.isAgg387
  z175 := Tryz.sizeOf387
  v175 := Tryz.zeroValue387
  t210 := Tryz.underlying390
  a210 := Tryz.isAgg390
  z210 := Tryz.sizeOf390
  v210 := Tryz.zeroValue390
  t212 := Tryz.underlying384
  a212 := Tryz.isAgg384
  z212 := Tryz.sizeOf384
  v212 := Tryz.zeroValue384
  t213 := Tryz.underlying385
  a213 := Tryz.isAgg385
  z213 := Tryz.sizeOf385
  t232 := Tryz.underlying405
  a232 := Tryz.isAgg405
  z232 := Tryz.sizeOf405
  v232 := Tryz.zeroValue405
  t233 := Tryz.underlying406
  a233 := Tryz.isAgg406
  z233 := Tryz.sizeOf406
  v233 := Tryz.zeroValue406
  g15 := by kernel_rfl
  g16 := by kernel_rfl
  g17 := by kernel_rfl
  g18 := by kernel_rfl
  g19 := by kernel_rfl
  t80 := Tryz.underlying345
  a80 := Tryz.isAgg345
  z80 := Tryz.sizeOf345
  v80 := Tryz.zeroValue345
  i0 := by kernel_rfl
  i2 := by kernel_rfl
  i3 := by kernel_rfl
  i4 := by kernel_rfl
  i5 := by kernel_rfl
  i9 := by kernel_rfl
  i20 := by kernel_rfl
  i21 := by kernel_rfl
  i37 := by kernel_rfl
  i46 := by kernel_rfl
  i51 := by kernel_rfl
  i53 := by kernel_rfl
  i75 := by kernel_rfl
  i76 := by kernel_rfl
  i80 := by kernel_rfl
  i85 := by kernel_rfl
  i127 := by kernel_rfl
  i143 := by kernel_rfl
  i145 := by kernel_rfl
  i167 := by kernel_rfl
  i168 := by kernel_rfl
  i171 := by kernel_rfl
  i173 := by kernel_rfl
  i175 := by kernel_rfl
  i210 := by kernel_rfl
  i212 := by kernel_rfl
  i232 := by kernel_rfl
  i233 := by kernel_rfl
  m15 := by kernel_rfl
  m16 := by kernel_rfl
  m17 := by kernel_rfl
  m18 := by kernel_rfl
  m19 := by kernel_rfl
  c0 := by kernel_rfl
  c2 := by kernel_rfl
  c3 := by kernel_rfl
  c4 := by kernel_rfl
  c5 := by kernel_rfl
  c9 := by kernel_rfl
  c20 := by kernel_rfl
  c21 := by kernel_rfl
  c37 := by kernel_rfl
  c46 := by kernel_rfl
  c51 := by kernel_rfl
  c53 := by kernel_rfl
  c75 := by kernel_rfl
  c76 := by kernel_rfl
  c80 := by kernel_rfl
  c85 := by kernel_rfl
  c127 := by kernel_rfl
  c143 := by kernel_rfl
  c145 := by kernel_rfl
  c167 := by kernel_rfl
  c168 := by kernel_rfl
  c171 := by kernel_rfl
  c173 := by kernel_rfl
  c175 := by kernel_rfl
  c210 := by kernel_rfl
  c212 := by kernel_rfl
  c213 := by kernel_rfl
  c232 := by kernel_rfl
  c233 := by kernel_rfl }
open Go.RowKit in
/-- strconv.Atoi, AT EVERY STRING THAT SPELLS AN int ('Lib.atoiAll .. = .ok v'; of whatever length: leading zeros count): v, AND NO ERROR. The world: as it was, or with the one new row that '[]byte(..)' lays. (LAID: no walk: one application.) -/
theorem Tryz.strconv_Atoi_ok (s : ByteArray) (hmax : s.size ≤ 9223372036854775806) (v : Int) (h : Lib.atoiAll s.data.toList = .ok v) (w : World) :
    Calls Tryz.prog 255 #[.string s] w fun e w' => e = .returned (.tuple #[.int .i64 v, .nilIface]) ∧ (w' = w ∨ ∃ t, w' = Lib.bytesWorld w 5 t) := Any.strconv_Atoi_ok Tryz.laysC172 s hmax v h w
open Go.RowKit in
open Go.RowKit in
/-- strconv.Atoi, AT EVERY NUMERAL THAT NO int HOLDS ('.range'): THE GREATEST OR THE LEAST int, BY THE SIGN ('Lib.atoiSat'), AND AN ERROR THAT IS NOT nil: a *NumError in a new block N: {Func: "Atoi", Num: s's bytes, Err: what the variable ErrRange holds}. Of what was there nothing has turned. (LAID: no walk: one application.) -/
theorem Tryz.strconv_Atoi_range (s : ByteArray) (hlim : s.size ≤ 281474976710656) (h : Lib.atoiAll s.data.toList = .range) (ev : Value) (w : World) (hv : w.cell? ⟨3, 0, none⟩ = some ev) (hev : ev = .nilIface ∨ ∃ te pe, ev = .iface te pe) :
    Calls Tryz.prog 255 #[.string s] w fun e w' => ∃ N, e = .returned (.tuple #[.int .i64 (Lib.atoiSat s.data.toList), .iface 372 (.pointer (some ⟨N, 0, none⟩))]) ∧ w.heap.size ≤ N ∧ w'.heap[N]? = some (.cells #[.string ⟨#[65, 116, 111, 105]⟩, .string s, ev] 390 (0, 0)) ∧ Below w.heap.size w w' := Any.strconv_Atoi_range Tryz.laysC172 s hlim h ev w hv hev
def Tryz.lays212_ren : Go.Shelf.Ren := ⟨fun | 212 => 194 | 263 => 267 | 264 => 268 | n => n, fun | 46 => 230 | 51 => 301 | 146 => 302 | 53 => 304 | 148 => 305 | n => n, fun | n => n⟩
theorem Tryz.lays212 : Go.Proofs.Lays.n212 Tryz.prog Tryz.lays212_ren := {
  mixed := by kernel_rfl
  f212 := Tryz.func194.trans (congrArg some (by kernel_rfl))
  f263 := Tryz.func267.trans (congrArg some (by kernel_rfl))
  f264 := Tryz.func268.trans (congrArg some (by kernel_rfl))
  t46 := Tryz.underlying230
  a46 := Tryz.isAgg230
  z46 := Tryz.sizeOf230
  v46 := Tryz.zeroValue230
  t51 := Tryz.underlying301
  a51 := Tryz.isAgg301
  z51 := Tryz.sizeOf301
  v51 := Tryz.zeroValue301
  t53 := Tryz.underlying304
  a53 := Tryz.isAgg304
  z53 := Tryz.sizeOf304
  v53 := Tryz.zeroValue304
  t146 := Tryz.underlying302
  a146 := Tryz.isAgg302
  z146 := Tryz.sizeOf302
  v146 := Tryz.zeroValue302
  t148 := Tryz.underlying305
  a148 := Tryz.isAgg305
  z148 := Tryz.sizeOf305
  v148 := Tryz.zeroValue305 }
open Go.RowKit Go.Lib in
/-- math/bits.Mul: "Mul returns the full-width product of x and y": on a machine of 64 bits: Mul64's. (LAID: no walk: one application.) -/
theorem Tryz.bits_Mul (x y : Nat) (hx : x < 18446744073709551616) (hy : y < 18446744073709551616) (w : World) :
    Calls Tryz.prog 194 #[.int .u64 x, .int .u64 y] w fun e w' => e = .returned (.tuple #[.int .u64 ((x * y / 18446744073709551616 : Nat) : Int), .int .u64 ((x * y % 18446744073709551616 : Nat) : Int)]) ∧ w' = w := Any.bits_Mul Tryz.lays212 x y hx hy w
end Go.Proofs
