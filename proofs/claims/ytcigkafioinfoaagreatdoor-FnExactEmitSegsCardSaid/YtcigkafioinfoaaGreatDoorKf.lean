/- DERIVED: THE SHELF's CONTRACTS AT THIS DUMP, IN PLAIN WORDS (tools/lay-plain.mjs out of 'TryzShelf.lean', which tools/lay-shelf.mjs wrote): THE SAME DECLARATIONS UNDER THE SAME NAMES: 'import', 'namespace', 'open', 'def', 'theorem' AND NOTHING ELSE: no command of the shelf's: FOR A HAND-IN. Each laying: the table of numbers ('.._ren') and one theorem, a field a fact of the dump's own or the kernel's comparison; each contract: ONE APPLICATION. Conditions: none. -/
import Derived.Shelf.Strings.Builder1
import Derived.Shelf.Strings.Builder2
import Derived.Shelf.Strings.OnBuilder
import Derived.Shelf.Strings.BuilderF
import Derived.Shelf.Strings.BuilderK
import Derived.Shelf.Utf8.RuneCount
import Derived.Shelf.Strings.Builder2Cap
import Derived.Shelf.Strconv.Atoi
import Derived.Shelf.Strconv.Itoa0
import Derived.Shelf.Strconv.Itoa1
import Derived.Shelf.LaysM
import Derived.Shelf.Strconv.Itoa2
import Derived.Shelf.Strconv.Itoa3
import Derived.Shelf.Strconv.AtoiErrFast
import Derived.Shelf.Strconv.ParseIntEmpty
import Derived.Shelf.Strconv.AtoiFail
import Derived.Shelf.Strconv.Clone
import Derived.Shelf.Strconv.SyntaxError
import Derived.Shelf.LaysC
import Derived.Shelf.Strconv.ToError
import Derived.Shelf.Strconv.Lower
import Derived.Shelf.Strconv.ParseUint10
import Derived.Shelf.Strconv.ParseUint10Empty
import Derived.Shelf.Strconv.ParseUint10Any
import Derived.Shelf.Strconv.ParseInt10
import Derived.Shelf.Strconv.AtoiLong
import Derived.Shelf.Strconv.AtoiInnerAll
import Derived.Shelf.Strconv.RangeError
import Derived.Shelf.Strconv.ToErrorRange
import Derived.Shelf.Strconv.AtoiAll
import Derived.Shelf.Strconv.ErrVarAll
import Derived.Shelf.Strings.Search1
import Derived.Shelf.Strings.Search2
import Derived.Shelf.Strings.Search3
import Derived.Shelf.Strings.Count
import Derived.Shelf.Strings.Shaped
import Derived.Shelf.Strings.Split
import Derived.Shelf.Strings.SplitShaped
import Derived.Shelf.Unicode.Decode
import Derived.Shelf.Strings.RuneCount
import Derived.Shelf.Strings.Explode
import Derived.Shelf.Unicode.DecodeSlow
import Derived.Shelf.Unicode.DecodeAny
import Derived.Shelf.Strings.BuilderCap
import Derived.Shelf.Slices.Turned
import Derived.Shelf.Slices.Equal
import Derived.Ground.Names2Prog
import Derived.Shelf.Slices.Clone
import Derived.Shelf.Slices.Empties2
import Derived.Ground.SlgnProg
import Derived.Shelf.SlicesE.Clone
import Derived.Test.YtcigkafioinfoaaGreatDoorProg
import Derived.Test.YtcigkafioinfoaaGreatDoorKe
set_option linter.unusedVariables false
set_option linter.unusedSimpArgs false
section
namespace Go.Proofs
open Go.Shelf
def Tryz.lays156_ren : Go.Shelf.Ren := ⟨fun | 156 => 177 | 165 => 222 | 166 => 223 | 169 => 224 | 240 => 256 | 241 => 257 | 276 => 271 | 277 => 272 | n => n, fun | 31 => 88 | 9 => 9 | 3 => 3 | 4 => 4 | 0 => 0 | 20 => 20 | 72 => 235 | 76 => 239 | 70 => 233 | 37 => 22 | 75 => 238 | 127 => 251 | 164 => 257 | 5 => 5 | 80 => 173 | n => n, fun | n => n⟩
theorem Tryz.lays156 : Go.Proofs.Lays.n156 Tryz.prog Tryz.lays156_ren := {
 mixed := by kernel_rfl
 f156 := Tryz.func177.trans (congrArg some (by kernel_rfl))
 f165 := Tryz.func222.trans (congrArg some (by kernel_rfl))
 f166 := Tryz.func223.trans (congrArg some (by kernel_rfl))
 f169 := Tryz.func224.trans (congrArg some (by kernel_rfl))
 f240 := Tryz.func256.trans (congrArg some (by kernel_rfl))
 f241 := Tryz.func257.trans (congrArg some (by kernel_rfl))
 f276 := Tryz.func271.trans (congrArg some (by kernel_rfl))
 f277 := Tryz.func272.trans (congrArg some (by kernel_rfl))
 t0 := Tryz.underlying0
 a0 := Tryz.isAgg0
 z0 := Tryz.sizeOf0
 v0 := Tryz.zeroValue0
 t3 := Tryz.underlying3
 a3 := Tryz.isAgg3
 z3 := Tryz.sizeOf3
 v3 := Tryz.zeroValue3
 t4 := Tryz.underlying4
 a4 := Tryz.isAgg4
 z4 := Tryz.sizeOf4
 v4 := Tryz.zeroValue4
 t9 := Tryz.underlying9
 a9 := Tryz.isAgg9
 z9 := Tryz.sizeOf9
 v9 := Tryz.zeroValue9
 t20 := Tryz.underlying20
 a20 := Tryz.isAgg20
 z20 := Tryz.sizeOf20
 v20 := Tryz.zeroValue20
 t31 := Tryz.underlying88
 a31 := Tryz.isAgg88
 z31 := Tryz.sizeOf88
 v31 := Tryz.zeroValue88
 t37 := Tryz.underlying22
 a37 := Tryz.isAgg22
 z37 := Tryz.sizeOf22
 v37 := Tryz.zeroValue22
 t70 := Tryz.underlying233
 a70 := Tryz.isAgg233
 z70 := Tryz.sizeOf233
 v70 := Tryz.zeroValue233
 t72 := Tryz.underlying235
 a72 := Tryz.isAgg235
 z72 := Tryz.sizeOf235
 v72 := Tryz.zeroValue235
 t75 := Tryz.underlying238
 a75 := Tryz.isAgg238
 z75 := Tryz.sizeOf238
 v75 := Tryz.zeroValue238
 t76 := Tryz.underlying239
 a76 := Tryz.isAgg239
 z76 := Tryz.sizeOf239
 v76 := Tryz.zeroValue239
 t127 := Tryz.underlying251
 a127 := Tryz.isAgg251
 z127 := Tryz.sizeOf251
 v127 := Tryz.zeroValue251
 t164 := Tryz.underlying257
 a164 := Tryz.isAgg257
 z164 := Tryz.sizeOf257
 v164 := Tryz.zeroValue257 }
theorem Tryz.Builder_Extra_156 : Builder.Extra Tryz.prog Tryz.lays156_ren := {
 sizeBuilder := by kernel_rfl
 liesBuilder := by kernel_rfl
 t5 := Tryz.underlying5
 a5 := Tryz.isAgg5
 z5 := Tryz.sizeOf5
 v5 := Tryz.zeroValue5
 infoByte := by kernel_rfl
 cellsByte := by kernel_rfl
 sizeByte := by kernel_rfl
 neB5 := by decide }
open Go.RowKit in
/-- No element: the empty string; the world is as it was. (Whatever the slice's address and capacity: a nil slice too.) (LAID: no walk: one application.) -/
theorem Tryz.strings_Join_none (a : Option Addr) (c : Nat) (sep : ByteArray) (w : World) :
  Calls Tryz.prog 177 #[.slice a 0 c, .string sep] w fun e w' => e = .returned (.string ⟨#[]⟩) ∧ w' = w := Any.strings_Join_none Tryz.lays156 Tryz.Builder_Extra_156 a c sep w
open Go.RowKit in
/-- strings.Join: "Join concatenates the elements of its first argument to create a single string. The separator string sep is placed between elements in the resulting string.": HOWEVER MANY ELEMENTS. Below the heap's end the world is as it was. (LAID: no walk: one application.) -/
theorem Tryz.strings_Join (bk o c : Nat) (xs : List ByteArray) (sep : ByteArray) (w : World) (hcells : ∀ (j : Nat) x, xs[j]? = some x → w.cell? ⟨bk, o + j, none⟩ = some (.string x)) (hbk : bk < w.heap.size) (hN : xs.length ≤ 140737488355328) (hcap : xs.length ≤ c) (hlen : (Lib.join (xs.map (·.data.toList)) sep.data.toList).length ≤ 140737488355328) :
  Calls Tryz.prog 177 #[.slice (some ⟨bk, o, none⟩) xs.length c, .string sep] w fun e w' => e = .returned (.string ⟨(Lib.join (xs.map (·.data.toList)) sep.data.toList).toArray⟩) ∧ Below w.heap.size w w' := Any.strings_Join Tryz.lays156 Tryz.Builder_Extra_156 bk o c xs sep w hcells hbk hN hcap hlen
def Tryz.laysM171_ren : Go.Shelf.Ren := ⟨fun | 171 => 239 | 243 => 263 | 246 => 277 | 283 => 286 | 284 => 287 | 285 => 288 | 286 => 289 | 129 => 294 | 317 => 293 | 318 => 295 | 319 => 296 | 320 => 297 | 337 => 300 | 338 => 301 | n => n, fun | 3 => 3 | 9 => 9 | 2 => 2 | 4 => 4 | 171 => 277 | 0 => 0 | 53 => 278 | 37 => 22 | 5 => 5 | 173 => 281 | 212 => 290 | 51 => 268 | 20 => 20 | 213 => 291 | 46 => 256 | 232 => 299 | 233 => 300 | n => n, fun | 17 => 6 | 18 => 7 | 19 => 8 | n => n⟩
theorem Tryz.laysM171 : Go.Proofs.LaysM.n171 Tryz.prog Tryz.laysM171_ren := {
 mixed := by kernel_rfl
 f129 := Tryz.func294.trans (congrArg some (by kernel_rfl))
 f171 := Tryz.func239.trans (congrArg some (by kernel_rfl))
 f243 := Tryz.func263.trans (congrArg some (by kernel_rfl))
 f246 := Tryz.func277.trans (congrArg some (by kernel_rfl))
 f283 := Tryz.func286.trans (congrArg some (by kernel_rfl))
 f284 := Tryz.func287.trans (congrArg some (by kernel_rfl))
 f285 := Tryz.func288.trans (congrArg some (by kernel_rfl))
 f286 := Tryz.func289.trans (congrArg some (by kernel_rfl))
 f317 := Tryz.func293.trans (congrArg some (by kernel_rfl))
 f318 := Tryz.func295.trans (congrArg some (by kernel_rfl))
 f319 := Tryz.func296.trans (congrArg some (by kernel_rfl))
 f320 := Tryz.func297.trans (congrArg some (by kernel_rfl))
 f337 := Tryz.func300.trans (congrArg some (by kernel_rfl))
 f338 := Tryz.func301.trans (congrArg some (by kernel_rfl))
 t0 := Tryz.underlying0
 a0 := Tryz.isAgg0
 z0 := Tryz.sizeOf0
 v0 := Tryz.zeroValue0
 t2 := Tryz.underlying2
 a2 := Tryz.isAgg2
 z2 := Tryz.sizeOf2
 v2 := Tryz.zeroValue2
 t3 := Tryz.underlying3
 a3 := Tryz.isAgg3
 z3 := Tryz.sizeOf3
 v3 := Tryz.zeroValue3
 t4 := Tryz.underlying4
 a4 := Tryz.isAgg4
 z4 := Tryz.sizeOf4
 v4 := Tryz.zeroValue4
 t5 := Tryz.underlying5
 a5 := Tryz.isAgg5
 z5 := Tryz.sizeOf5
 v5 := Tryz.zeroValue5
 t9 := Tryz.underlying9
 a9 := Tryz.isAgg9
 z9 := Tryz.sizeOf9
 v9 := Tryz.zeroValue9
 t20 := Tryz.underlying20
 a20 := Tryz.isAgg20
 z20 := Tryz.sizeOf20
 v20 := Tryz.zeroValue20
 t37 := Tryz.underlying22
 a37 := Tryz.isAgg22
 z37 := Tryz.sizeOf22
 v37 := Tryz.zeroValue22
 t46 := Tryz.underlying256
 a46 := Tryz.isAgg256
 z46 := Tryz.sizeOf256
 v46 := Tryz.zeroValue256
 t51 := Tryz.underlying268
 a51 := Tryz.isAgg268
 z51 := Tryz.sizeOf268
 v51 := Tryz.zeroValue268
 t53 := Tryz.underlying278
 a53 := Tryz.isAgg278
 z53 := Tryz.sizeOf278
 v53 := Tryz.zeroValue278
 t171 := Tryz.underlying277
 a171 := Tryz.isAgg277
 z171 := Tryz.sizeOf277
 v171 := Tryz.zeroValue277
 t173 := Tryz.underlying281
 a173 := Tryz.isAgg281
 z173 := Tryz.sizeOf281
 v173 := Tryz.zeroValue281
 t212 := Tryz.underlying290
 a212 := Tryz.isAgg290
 z212 := Tryz.sizeOf290
 v212 := Tryz.zeroValue290
 t213 := Tryz.underlying291
 a213 := Tryz.isAgg291
 z213 := Tryz.sizeOf291
 t232 := Tryz.underlying299
 a232 := Tryz.isAgg299
 z232 := Tryz.sizeOf299
 v232 := Tryz.zeroValue299
 t233 := Tryz.underlying300
 a233 := Tryz.isAgg300
 z233 := Tryz.sizeOf300
 v233 := Tryz.zeroValue300
 g17 := by kernel_rfl
 g18 := by kernel_rfl
 g19 := by kernel_rfl
 i0 := by kernel_rfl
 i2 := by kernel_rfl
 i3 := by kernel_rfl
 i4 := by kernel_rfl
 i5 := by kernel_rfl
 i9 := by kernel_rfl
 i20 := by kernel_rfl
 i37 := by kernel_rfl
 i46 := by kernel_rfl
 i51 := by kernel_rfl
 i53 := by kernel_rfl
 i171 := by kernel_rfl
 i173 := by kernel_rfl
 i212 := by kernel_rfl
 i232 := by kernel_rfl
 i233 := by kernel_rfl
 m17 := by kernel_rfl
 m18 := by kernel_rfl
 m19 := by kernel_rfl }
open Go.RowKit Go.Sort Go.Lib in
/-- strconv.Itoa: "Itoa is equivalent to FormatInt(int64(i), 10).": i's DECIMAL NUMERAL ('Lib.itoa': a '-' where i is negative, then the digits), FOR EVERY int. The world behind the call: the world before it, new blocks behind the heap (the library's 'var a [24]byte'), draws. (LAID: no walk: one application.) -/
theorem Tryz.strconv_Itoa (n : Int) (h0 : -9223372036854775808 ≤ n) (h1 : n ≤ 9223372036854775807) (w : World) (htab : Lib.TabIs Tryz.prog w "internal/strconv.uint64pow10" .u64 Lib.pow10Tab) :
  Calls Tryz.prog 239 #[.int .i64 n] w fun e w' => e = .returned (.string ⟨(Lib.itoa n).toArray⟩) ∧ ∃ k os, w' = grow (w.drewN k) os := Any.strconv_Itoa Tryz.laysM171 n h0 h1 w htab
def Tryz.laysC172_ren : Go.Shelf.Ren := ⟨fun | 172 => 258 | 244 => 273 | 245 => 274 | 247 => 280 | 279 => 281 | 280 => 282 | 281 => 283 | 282 => 284 | 287 => 290 | 316 => 291 | 171 => 239 | 205 => 292 | 321 => 298 | 322 => 299 | 243 => 263 | 246 => 277 | 283 => 286 | 284 => 287 | 285 => 288 | 286 => 289 | 129 => 294 | 317 => 293 | 318 => 295 | 319 => 296 | 320 => 297 | 337 => 300 | 338 => 301 | n => n, fun | 9 => 9 | 3 => 3 | 75 => 238 | 76 => 239 | 4 => 4 | 5 => 5 | 167 => 271 | 37 => 22 | 0 => 0 | 85 => 272 | 2 => 2 | 168 => 274 | 53 => 278 | 175 => 283 | 46 => 256 | 210 => 287 | 127 => 251 | 145 => 297 | 143 => 295 | 21 => 21 | 171 => 277 | 173 => 281 | 212 => 290 | 51 => 268 | 20 => 20 | 213 => 291 | 232 => 299 | 233 => 300 | 80 => 173 | n => n, fun | 15 => 4 | 16 => 5 | 17 => 6 | 18 => 7 | 19 => 8 | n => n⟩
theorem Tryz.laysC172 : Go.Proofs.LaysC.n172 Tryz.prog Tryz.laysC172_ren := {
 mixed := by kernel_rfl
 f129 := Tryz.func294.trans (congrArg some (by kernel_rfl))
 f171 := Tryz.func239.trans (congrArg some (by kernel_rfl))
 f172 := Tryz.func258.trans (congrArg some (by kernel_rfl))
 f205 := Tryz.func292.trans (congrArg some (by kernel_rfl))
 f243 := Tryz.func263.trans (congrArg some (by kernel_rfl))
 f244 := Tryz.func273.trans (congrArg some (by kernel_rfl))
 f245 := Tryz.func274.trans (congrArg some (by kernel_rfl))
 f246 := Tryz.func277.trans (congrArg some (by kernel_rfl))
 f247 := Tryz.func280.trans (congrArg some (by kernel_rfl))
 f279 := Tryz.func281.trans (congrArg some (by kernel_rfl))
 f280 := Tryz.func282.trans (congrArg some (by kernel_rfl))
 f281 := Tryz.func283.trans (congrArg some (by kernel_rfl))
 f282 := Tryz.func284.trans (congrArg some (by kernel_rfl))
 f283 := Tryz.func286.trans (congrArg some (by kernel_rfl))
 f284 := Tryz.func287.trans (congrArg some (by kernel_rfl))
 f285 := Tryz.func288.trans (congrArg some (by kernel_rfl))
 f286 := Tryz.func289.trans (congrArg some (by kernel_rfl))
 f287 := Tryz.func290.trans (congrArg some (by kernel_rfl))
 f316 := Tryz.func291.trans (congrArg some (by kernel_rfl))
 f317 := Tryz.func293.trans (congrArg some (by kernel_rfl))
 f318 := Tryz.func295.trans (congrArg some (by kernel_rfl))
 f319 := Tryz.func296.trans (congrArg some (by kernel_rfl))
 f320 := Tryz.func297.trans (congrArg some (by kernel_rfl))
 f321 := Tryz.func298.trans (congrArg some (by kernel_rfl))
 f322 := Tryz.func299.trans (congrArg some (by kernel_rfl))
 f337 := Tryz.func300.trans (congrArg some (by kernel_rfl))
 f338 := Tryz.func301.trans (congrArg some (by kernel_rfl))
 t0 := Tryz.underlying0
 a0 := Tryz.isAgg0
 z0 := Tryz.sizeOf0
 v0 := Tryz.zeroValue0
 t2 := Tryz.underlying2
 a2 := Tryz.isAgg2
 z2 := Tryz.sizeOf2
 v2 := Tryz.zeroValue2
 t3 := Tryz.underlying3
 a3 := Tryz.isAgg3
 z3 := Tryz.sizeOf3
 v3 := Tryz.zeroValue3
 t4 := Tryz.underlying4
 a4 := Tryz.isAgg4
 z4 := Tryz.sizeOf4
 v4 := Tryz.zeroValue4
 t5 := Tryz.underlying5
 a5 := Tryz.isAgg5
 z5 := Tryz.sizeOf5
 v5 := Tryz.zeroValue5
 t9 := Tryz.underlying9
 a9 := Tryz.isAgg9
 z9 := Tryz.sizeOf9
 v9 := Tryz.zeroValue9
 t20 := Tryz.underlying20
 a20 := Tryz.isAgg20
 z20 := Tryz.sizeOf20
 v20 := Tryz.zeroValue20
 t21 := Tryz.underlying21
 a21 := Tryz.isAgg21
 z21 := Tryz.sizeOf21
 v21 := Tryz.zeroValue21
 t37 := Tryz.underlying22
 a37 := Tryz.isAgg22
 z37 := Tryz.sizeOf22
 v37 := Tryz.zeroValue22
 t46 := Tryz.underlying256
 a46 := Tryz.isAgg256
 z46 := Tryz.sizeOf256
 v46 := Tryz.zeroValue256
 t51 := Tryz.underlying268
 a51 := Tryz.isAgg268
 z51 := Tryz.sizeOf268
 v51 := Tryz.zeroValue268
 t53 := Tryz.underlying278
 a53 := Tryz.isAgg278
 z53 := Tryz.sizeOf278
 v53 := Tryz.zeroValue278
 t75 := Tryz.underlying238
 a75 := Tryz.isAgg238
 z75 := Tryz.sizeOf238
 v75 := Tryz.zeroValue238
 t76 := Tryz.underlying239
 a76 := Tryz.isAgg239
 z76 := Tryz.sizeOf239
 v76 := Tryz.zeroValue239
 t85 := Tryz.underlying272
 a85 := Tryz.isAgg272
 z85 := Tryz.sizeOf272
 v85 := Tryz.zeroValue272
 t127 := Tryz.underlying251
 a127 := Tryz.isAgg251
 z127 := Tryz.sizeOf251
 v127 := Tryz.zeroValue251
 t143 := Tryz.underlying295
 a143 := Tryz.isAgg295
 z143 := Tryz.sizeOf295
 v143 := Tryz.zeroValue295
 t145 := Tryz.underlying297
 a145 := Tryz.isAgg297
 z145 := Tryz.sizeOf297
 v145 := Tryz.zeroValue297
 t167 := Tryz.underlying271
 a167 := Tryz.isAgg271
 z167 := Tryz.sizeOf271
 v167 := Tryz.zeroValue271
 t168 := Tryz.underlying274
 a168 := Tryz.isAgg274
 z168 := Tryz.sizeOf274
 v168 := Tryz.zeroValue274
 t171 := Tryz.underlying277
 a171 := Tryz.isAgg277
 z171 := Tryz.sizeOf277
 v171 := Tryz.zeroValue277
 t173 := Tryz.underlying281
 a173 := Tryz.isAgg281
 z173 := Tryz.sizeOf281
 v173 := Tryz.zeroValue281
 t175 := Tryz.underlying283
 a175 := Tryz.isAgg283
 z175 := Tryz.sizeOf283
 v175 := Tryz.zeroValue283
 t210 := Tryz.underlying287
 a210 := Tryz.isAgg287
 z210 := Tryz.sizeOf287
 v210 := Tryz.zeroValue287
 t212 := Tryz.underlying290
 a212 := Tryz.isAgg290
 z212 := Tryz.sizeOf290
 v212 := Tryz.zeroValue290
 t213 := Tryz.underlying291
 a213 := Tryz.isAgg291
 z213 := Tryz.sizeOf291
 t232 := Tryz.underlying299
 a232 := Tryz.isAgg299
 z232 := Tryz.sizeOf299
 v232 := Tryz.zeroValue299
 t233 := Tryz.underlying300
 a233 := Tryz.isAgg300
 z233 := Tryz.sizeOf300
 v233 := Tryz.zeroValue300
 g15 := by kernel_rfl
 g16 := by kernel_rfl
 g17 := by kernel_rfl
 g18 := by kernel_rfl
 g19 := by kernel_rfl
 t80 := Tryz.underlying173
 a80 := Tryz.isAgg173
 z80 := Tryz.sizeOf173
 v80 := Tryz.zeroValue173
 i0 := by kernel_rfl
 i2 := by kernel_rfl
 i3 := by kernel_rfl
 i4 := by kernel_rfl
 i5 := by kernel_rfl
 i9 := by kernel_rfl
 i20 := by kernel_rfl
 i21 := by kernel_rfl
 i37 := by kernel_rfl
 i46 := by kernel_rfl
 i51 := by kernel_rfl
 i53 := by kernel_rfl
 i75 := by kernel_rfl
 i76 := by kernel_rfl
 i80 := by kernel_rfl
 i85 := by kernel_rfl
 i127 := by kernel_rfl
 i143 := by kernel_rfl
 i145 := by kernel_rfl
 i167 := by kernel_rfl
 i168 := by kernel_rfl
 i171 := by kernel_rfl
 i173 := by kernel_rfl
 i175 := by kernel_rfl
 i210 := by kernel_rfl
 i212 := by kernel_rfl
 i232 := by kernel_rfl
 i233 := by kernel_rfl
 m15 := by kernel_rfl
 m16 := by kernel_rfl
 m17 := by kernel_rfl
 m18 := by kernel_rfl
 m19 := by kernel_rfl
 c0 := by kernel_rfl
 c2 := by kernel_rfl
 c3 := by kernel_rfl
 c4 := by kernel_rfl
 c5 := by kernel_rfl
 c9 := by kernel_rfl
 c20 := by kernel_rfl
 c21 := by kernel_rfl
 c37 := by kernel_rfl
 c46 := by kernel_rfl
 c51 := by kernel_rfl
 c53 := by kernel_rfl
 c75 := by kernel_rfl
 c76 := by kernel_rfl
 c80 := by kernel_rfl
 c85 := by kernel_rfl
 c127 := by kernel_rfl
 c143 := by kernel_rfl
 c145 := by kernel_rfl
 c167 := by kernel_rfl
 c168 := by kernel_rfl
 c171 := by kernel_rfl
 c173 := by kernel_rfl
 c175 := by kernel_rfl
 c210 := by kernel_rfl
 c212 := by kernel_rfl
 c213 := by kernel_rfl
 c232 := by kernel_rfl
 c233 := by kernel_rfl }
open Go.RowKit in
/-- strconv.Atoi, AT EVERY STRING THAT SPELLS AN int ('Lib.atoiAll .. = .ok v'; of whatever length: leading zeros count): v, AND NO ERROR. The world: as it was, or with the one new row that '[]byte(..)' lays. (LAID: no walk: one application.) -/
theorem Tryz.strconv_Atoi_ok (s : ByteArray) (hmax : s.size ≤ 9223372036854775806) (v : Int) (h : Lib.atoiAll s.data.toList = .ok v) (w : World) :
  Calls Tryz.prog 258 #[.string s] w fun e w' => e = .returned (.tuple #[.int .i64 v, .nilIface]) ∧ (w' = w ∨ ∃ t, w' = Lib.bytesWorld w 5 t) := Any.strconv_Atoi_ok Tryz.laysC172 s hmax v h w
def Tryz.lays144_ren : Go.Shelf.Ren := ⟨fun | 144 => 209 | 143 => 221 | 219 => 255 | 217 => 267 | 225 => 268 | 224 => 269 | 267 => 270 | 266 => 278 | 314 => 279 | n => n, fun | 9 => 9 | 4 => 4 | 3 => 3 | 5 => 5 | 46 => 256 | 146 => 269 | 51 => 268 | n => n, fun | 1 => 1 | n => n⟩
theorem Tryz.lays144 : Go.Proofs.Lays.n144 Tryz.prog Tryz.lays144_ren := {
 mixed := by kernel_rfl
 f143 := Tryz.func221.trans (congrArg some (by kernel_rfl))
 f144 := Tryz.func209.trans (congrArg some (by kernel_rfl))
 f217 := Tryz.func267.trans (congrArg some (by kernel_rfl))
 f219 := Tryz.func255.trans (congrArg some (by kernel_rfl))
 f224 := Tryz.func269.trans (congrArg some (by kernel_rfl))
 f225 := Tryz.func268.trans (congrArg some (by kernel_rfl))
 f266 := Tryz.func278.trans (congrArg some (by kernel_rfl))
 f267 := Tryz.func270.trans (congrArg some (by kernel_rfl))
 f314 := Tryz.func279.trans (congrArg some (by kernel_rfl))
 t3 := Tryz.underlying3
 a3 := Tryz.isAgg3
 z3 := Tryz.sizeOf3
 v3 := Tryz.zeroValue3
 t4 := Tryz.underlying4
 a4 := Tryz.isAgg4
 z4 := Tryz.sizeOf4
 v4 := Tryz.zeroValue4
 t5 := Tryz.underlying5
 a5 := Tryz.isAgg5
 z5 := Tryz.sizeOf5
 v5 := Tryz.zeroValue5
 t9 := Tryz.underlying9
 a9 := Tryz.isAgg9
 z9 := Tryz.sizeOf9
 v9 := Tryz.zeroValue9
 t46 := Tryz.underlying256
 a46 := Tryz.isAgg256
 z46 := Tryz.sizeOf256
 v46 := Tryz.zeroValue256
 t51 := Tryz.underlying268
 a51 := Tryz.isAgg268
 z51 := Tryz.sizeOf268
 v51 := Tryz.zeroValue268
 t146 := Tryz.underlying269
 a146 := Tryz.isAgg269
 z146 := Tryz.sizeOf269
 v146 := Tryz.zeroValue269
 g1 := by kernel_rfl }
open Go.RowKit Go.Lib in
/-- strings.Contains: "Contains reports whether substr is within s.": AT A substr OF ONE BYTE c: IT RETURNS 'decide (0 ≤ Lib.indexByte s c)'; the world is as it was. (LAID: no walk: one application.) -/
theorem Tryz.strings_Contains_one (s : ByteArray) (c : UInt8) (w : World) :
  Calls Tryz.prog 209 #[.string s, .string ⟨#[c]⟩] w fun e w' => e = .returned (.bool (decide (0 ≤ Lib.indexByte s.data.toList c))) ∧ w' = w := Any.strings_Contains_one Tryz.lays144 s c w
def Tryz.lays146_ren : Go.Shelf.Ren := ⟨fun | 146 => 116 | 221 => 176 | 268 => 219 | 138 => 220 | 143 => 221 | 195 => 252 | 197 => 253 | 218 => 254 | 219 => 255 | 260 => 266 | 217 => 267 | 225 => 268 | 224 => 269 | 267 => 270 | 266 => 278 | 314 => 279 | n => n, fun | 9 => 9 | 31 => 88 | 3 => 3 | 4 => 4 | 0 => 0 | 105 => 249 | 21 => 21 | 5 => 5 | 46 => 256 | 119 => 264 | 139 => 267 | 138 => 266 | 146 => 269 | 51 => 268 | n => n, fun | 1 => 1 | 3 => 2 | 4 => 3 | n => n⟩
theorem Tryz.lays146 : Go.Proofs.Lays.n146 Tryz.prog Tryz.lays146_ren := {
 mixed := by kernel_rfl
 f138 := Tryz.func220.trans (congrArg some (by kernel_rfl))
 f143 := Tryz.func221.trans (congrArg some (by kernel_rfl))
 f146 := Tryz.func116.trans (congrArg some (by kernel_rfl))
 f195 := Tryz.func252.trans (congrArg some (by kernel_rfl))
 f197 := Tryz.func253.trans (congrArg some (by kernel_rfl))
 f217 := Tryz.func267.trans (congrArg some (by kernel_rfl))
 f218 := Tryz.func254.trans (congrArg some (by kernel_rfl))
 f219 := Tryz.func255.trans (congrArg some (by kernel_rfl))
 f221 := Tryz.func176.trans (congrArg some (by kernel_rfl))
 f224 := Tryz.func269.trans (congrArg some (by kernel_rfl))
 f225 := Tryz.func268.trans (congrArg some (by kernel_rfl))
 f260 := Tryz.func266.trans (congrArg some (by kernel_rfl))
 f266 := Tryz.func278.trans (congrArg some (by kernel_rfl))
 f267 := Tryz.func270.trans (congrArg some (by kernel_rfl))
 f268 := Tryz.func219.trans (congrArg some (by kernel_rfl))
 f314 := Tryz.func279.trans (congrArg some (by kernel_rfl))
 t0 := Tryz.underlying0
 a0 := Tryz.isAgg0
 z0 := Tryz.sizeOf0
 v0 := Tryz.zeroValue0
 t3 := Tryz.underlying3
 a3 := Tryz.isAgg3
 z3 := Tryz.sizeOf3
 v3 := Tryz.zeroValue3
 t4 := Tryz.underlying4
 a4 := Tryz.isAgg4
 z4 := Tryz.sizeOf4
 v4 := Tryz.zeroValue4
 t5 := Tryz.underlying5
 a5 := Tryz.isAgg5
 z5 := Tryz.sizeOf5
 v5 := Tryz.zeroValue5
 t9 := Tryz.underlying9
 a9 := Tryz.isAgg9
 z9 := Tryz.sizeOf9
 v9 := Tryz.zeroValue9
 t21 := Tryz.underlying21
 a21 := Tryz.isAgg21
 z21 := Tryz.sizeOf21
 v21 := Tryz.zeroValue21
 t31 := Tryz.underlying88
 a31 := Tryz.isAgg88
 z31 := Tryz.sizeOf88
 v31 := Tryz.zeroValue88
 t46 := Tryz.underlying256
 a46 := Tryz.isAgg256
 z46 := Tryz.sizeOf256
 v46 := Tryz.zeroValue256
 t51 := Tryz.underlying268
 a51 := Tryz.isAgg268
 z51 := Tryz.sizeOf268
 v51 := Tryz.zeroValue268
 t105 := Tryz.underlying249
 a105 := Tryz.isAgg249
 z105 := Tryz.sizeOf249
 v105 := Tryz.zeroValue249
 t119 := Tryz.underlying264
 a119 := Tryz.isAgg264
 z119 := Tryz.sizeOf264
 t138 := Tryz.underlying266
 a138 := Tryz.isAgg266
 z138 := Tryz.sizeOf266
 v138 := Tryz.zeroValue266
 t139 := Tryz.underlying267
 a139 := Tryz.isAgg267
 z139 := Tryz.sizeOf267
 v139 := Tryz.zeroValue267
 t146 := Tryz.underlying269
 a146 := Tryz.isAgg269
 z146 := Tryz.sizeOf269
 v146 := Tryz.zeroValue269
 g1 := by kernel_rfl
 g3 := by kernel_rfl
 g4 := by kernel_rfl }
open Go.RowKit Go.Lib in
/-- strings.Split. (LAID: no walk: one application.) -/
theorem Tryz.strings_Split (s sep : ByteArray) (m : Int) (w : World) (hs : s.size < 4294967281) (hm : w.cell? ⟨1, 0, none⟩ = some (.int .i64 m)) (h1 : 1 ≤ sep.size) :
  Calls Tryz.prog 116 #[.string s, .string sep] w fun e w' =>
   e = .returned (.slice (some ⟨w.heap.size, 0, none⟩) (Lib.countB s sep + 1) (Lib.countB s sep + 1)) ∧ w' = w.alloc (.cells ((Lib.splitB sep 0 (Lib.countB s sep) s).map Value.string).toArray 9) := Any.strings_Split Tryz.lays146 (by kernel_rfl) s sep m w hs hm h1
end Go.Proofs
end
section
namespace Go.Proofs.YtcigkafioinfoaaGreatDoor
open Go.RowKit
set_option maxRecDepth 100000
theorem vm_ (w : World) (k : Nat) (os : Array Obj) : Below w.heap.size w (Sort.grow (w.drewN k) os) := by
 refine ⟨rfl, rfl, rfl, by simp [Sort.grow, World.drewN], fun i hi => ?_⟩
 show ((w.drewN k).heap ++ os)[i]? = _
 rw [Array.getElem?_append_left (by simpa [World.drewN] using hi)]
 rfl
theorem u0_ (n : Int) (h0 : -9223372036854775808 ≤ n) (h1 : n ≤ 9223372036854775807) : ACall En 239 [.i .i64 n] [] [.s (Lib.itoa n)] [] := by
 refine i6_ (fn := Tryz.f239) Tryz.func239 rfl rfl fun S w xs hx _ ⟨B, hB, _⟩ => ?_
 simp only [VRs, VR] at hx
 obtain ⟨x, r, e1, rfl, rfl⟩ := hx
 obtain rfl : xs = #[.int .i64 n] := by apply Array.ext'; simpa using e1
 refine (Tryz.strconv_Itoa n h0 h1 w hB.tab).mono ?_
 rintro e w' ⟨rfl, k, os, rfl⟩
 exact ⟨[_], rfl, vm_ _ _ _, .cons (by simp only [VR]) .nil⟩
theorem qi_ {φ : Phi} {S : Nat → Prop} {w : World} {z : Nat} : ∀ {l : List Str} {xs : List Value}, VRr φ S w z (c1_ l) xs → xs = l.map fun s => Value.string ⟨s.toArray⟩
 | [], xs, h => by simpa [c1_, VRr] using h
 | s :: l, xs, h => by
  simp only [c1_, List.map_cons, VRr] at h
  obtain ⟨ys, zs, rfl, _, h2, _, h3⟩ := h
  simp only [VRs, VR] at h2
  obtain ⟨x, r, rfl, rfl, rfl⟩ := h2
  rw [qi_ h3]; rfl
theorem agw_ (l : List Str) (sep : Str) (hb : (sep.intercalate l).length ≤ 1000000000000) (hn : l.length ≤ 1000000000000) : ACall En 177 [.sl false (c1_ l), .s sep] [] [.s (sep.intercalate l)] [] := by
 refine i6_ (fn := Tryz.f177) Tryz.func177 rfl rfl fun S w xs hx _ _ => ?_
 simp only [VRs, VR] at hx
 obtain ⟨x, r, e1, ⟨A, c, z, ys, rfl, h2, h3, h4, h5, h6⟩, y, q, rfl, rfl, rfl⟩ := hx
 obtain rfl : xs = #[.slice A (c1_ l).length c, .string ⟨sep.toArray⟩] := by apply Array.ext'; simpa using e1
 rw [ae_] at *
 have hv := qi_ h6
 by_cases h0 : l = []
 ·subst h0
  refine (Tryz.strings_Join_none A c ⟨sep.toArray⟩ w).mono ?_
  rintro e w' ⟨rfl, rfl⟩
  exact ⟨[_], rfl, Below.refl _ _, .cons (by simp only [VR]; simp [List.intercalate]) .nil⟩
 ·obtain ⟨g, o, rfl, _, hg, hcell⟩ := h5 (by rw [hv]; simpa using h0)
  have hj : Lib.join ((l.map fun s => (⟨s.toArray⟩ : ByteArray)).map fun x => x.data.toList) (⟨sep.toArray⟩ : ByteArray).data.toList = sep.intercalate l := by
   unfold Lib.join
   simp [Function.comp_def]
  have := Tryz.strings_Join g o c (l.map fun s => ⟨s.toArray⟩) ⟨sep.toArray⟩ w (fun j x hx => hcell j _ (by rw [hv]; rw [List.getElem?_map] at hx ⊢; cases hl : l[j]? <;> simp_all)) hg (by simp; omega) (by simp; omega) (by rw [hj]; omega)
  rw [hj, List.length_map] at this
  refine this.mono ?_
  rintro e w' ⟨rfl, h⟩
  exact ⟨[_], rfl, h, .cons (by simp only [VR]) .nil⟩
theorem k7_ (l : List Str) (hb : (cj_ l).length ≤ 1000000000000) (hn : l.length ≤ 1000000000000) : ACall En 192 [.sl false (c1_ l)] [] [.s (cj_ l)] [] := by
 refine an_ (fn := Tryz.f192) [] Tryz.func192 rfl rfl (by simp) fun C => ?_
 rw [bb_]
 simp only [Tryz.ntmps192, T7_, List.length_nil, Nat.reduceAdd, Nat.reduceSub, List.replicate_succ, List.replicate_zero, List.cons_append, List.nil_append, bu_]
 refine .seq (.rgn [] (by simp only [go_sem, seval]; rfl) ?_ ?_)
 ·first | trivial | simp
 refine .seq (.rgn [br_ (agw_ l [32] hb hn)] (by simp only [go_sem, seval]; rfl) ?_ ?_)
 ·first | trivial | simp
 refine .ret ⟨.inr rfl, ?_⟩
 exact Out.plain (by simp only [Tryz.results192]; rfl) (by simp only [ba_, bs_, go_sem, seval] <;> (split <;> rfl)) (by simp only [bq_, go_sem, seval] <;> (rfl)) (by simp only [go_sem, seval])
end Go.Proofs.YtcigkafioinfoaaGreatDoor
end
