import Derived.Test.YtlicffeicmoifaaGreatDoorProg
import Derived.Ground.Names2Prog
import Derived.Ground.SlgnProg
import Derived.Shelf.LaysM
import Derived.Shelf.Slices.Cells
import Derived.Shelf.Slices.Clone
import Derived.Shelf.Slices.CompactS
import Derived.Shelf.Slices.Empties2
import Derived.Shelf.Slices.Equal
import Derived.Shelf.SlicesE.Clone
import Derived.Shelf.SlicesG.CompactI
import Derived.Shelf.SlicesG.Delete
import Derived.Shelf.SlicesG.SearchI
import Derived.Shelf.Small.Bits
import Derived.Shelf.Small.Strs
import Derived.Shelf.Small.Utf8
import Derived.Shelf.Small.Wraps
import Derived.Shelf.Strconv.Itoa0
import Derived.Shelf.Strconv.Itoa1
import Derived.Shelf.Strconv.Itoa2
import Derived.Shelf.Strconv.Itoa3
import Derived.Shelf.Strconv.Itoa4
import Derived.Shelf.Strings.AsciiSet
import Derived.Shelf.Strings.Builder1
import Derived.Shelf.Strings.Builder2
import Derived.Shelf.Strings.Count
import Derived.Shelf.Strings.OnBuilder
import Derived.Shelf.Strings.Prefix
import Derived.Shelf.Strings.Replace
import Derived.Shelf.Strings.RuneCount
import Derived.Shelf.Strings.Runes
import Derived.Shelf.Strings.Search1
import Derived.Shelf.Strings.Search2
import Derived.Shelf.Strings.Search3
import Derived.Shelf.Strings.Shaped
import Derived.Shelf.Strings.SlTrimAscii
import Derived.Shelf.Strings.Split
import Derived.Shelf.Strings.SplitShaped
import Derived.Shelf.Strings.Trim
import Derived.Shelf.Unicode.Decode
import Derived.Shelf.Unicode.DecodeAny
import Derived.Shelf.Unicode.DecodeLast
import Derived.Shelf.Unicode.DecodeSlow
set_option linter.unusedSimpArgs false
namespace Go.Proofs
open Go.Shelf
def Tryz.lays161_ren : Go.Shelf.Ren := ⟨fun | 161 => 321 | 231 => 346 | 227 => 347 | 233 => 348 | 235 => 349 | 228 => 363 | 197 => 364 | 151 => 365 | 260 => 375 | 152 => 376 | 137 => 387 | 119 => 388 | 224 => 379 | 225 => 378 | 217 => 377 | 266 => 389 | n => n, fun | 9 => 9 | 4 => 4 | 3 => 3 | 5 => 5 | 117 => 305 | 116 => 304 | 0 => 0 | 124 => 308 | 105 => 315 | 21 => 21 | 119 => 331 | 46 => 201 | 139 => 334 | 138 => 333 | n => n, fun | 3 => 2 | 4 => 3 | n => n⟩
theorem Tryz.lays161 : Go.Proofs.Lays.n161 Tryz.prog Tryz.lays161_ren := {
 mixed := by kernel_rfl
 f119 := Tryz.func388.trans (congrArg some (by kernel_rfl))
 f137 := Tryz.func387.trans (congrArg some (by kernel_rfl))
 f151 := Tryz.func365.trans (congrArg some (by kernel_rfl))
 f152 := Tryz.func376.trans (congrArg some (by kernel_rfl))
 f161 := Tryz.func321.trans (congrArg some (by kernel_rfl))
 f197 := Tryz.func364.trans (congrArg some (by kernel_rfl))
 f217 := Tryz.func377.trans (congrArg some (by kernel_rfl))
 f224 := Tryz.func379.trans (congrArg some (by kernel_rfl))
 f225 := Tryz.func378.trans (congrArg some (by kernel_rfl))
 f227 := Tryz.func347.trans (congrArg some (by kernel_rfl))
 f228 := Tryz.func363.trans (congrArg some (by kernel_rfl))
 f231 := Tryz.func346.trans (congrArg some (by kernel_rfl))
 f233 := Tryz.func348.trans (congrArg some (by kernel_rfl))
 f235 := Tryz.func349.trans (congrArg some (by kernel_rfl))
 f260 := Tryz.func375.trans (congrArg some (by kernel_rfl))
 f266 := Tryz.func389.trans (congrArg some (by kernel_rfl))
 t0 := Tryz.underlying0
 a0 := Tryz.isAgg0
 z0 := Tryz.sizeOf0
 v0 := Tryz.zeroValue0
 t3 := Tryz.underlying3
 a3 := Tryz.isAgg3
 z3 := Tryz.sizeOf3
 v3 := Tryz.zeroValue3
 t4 := Tryz.underlying4
 a4 := Tryz.isAgg4
 z4 := Tryz.sizeOf4
 v4 := Tryz.zeroValue4
 t5 := Tryz.underlying5
 a5 := Tryz.isAgg5
 z5 := Tryz.sizeOf5
 v5 := Tryz.zeroValue5
 t9 := Tryz.underlying9
 a9 := Tryz.isAgg9
 z9 := Tryz.sizeOf9
 v9 := Tryz.zeroValue9
 t21 := Tryz.underlying21
 a21 := Tryz.isAgg21
 z21 := Tryz.sizeOf21
 v21 := Tryz.zeroValue21
 t46 := Tryz.underlying201
 a46 := Tryz.isAgg201
 z46 := Tryz.sizeOf201
 v46 := Tryz.zeroValue201
 t105 := Tryz.underlying315
 a105 := Tryz.isAgg315
 z105 := Tryz.sizeOf315
 v105 := Tryz.zeroValue315
 t116 := Tryz.underlying304
 a116 := Tryz.isAgg304
 z116 := Tryz.sizeOf304
 t117 := Tryz.underlying305
 a117 := Tryz.isAgg305
 z117 := Tryz.sizeOf305
 v117 := Tryz.zeroValue305
 t119 := Tryz.underlying331
 a119 := Tryz.isAgg331
 z119 := Tryz.sizeOf331
 t124 := Tryz.underlying308
 a124 := Tryz.isAgg308
 z124 := Tryz.sizeOf308
 v124 := Tryz.zeroValue308
 t138 := Tryz.underlying333
 a138 := Tryz.isAgg333
 z138 := Tryz.sizeOf333
 v138 := Tryz.zeroValue333
 t139 := Tryz.underlying334
 a139 := Tryz.isAgg334
 z139 := Tryz.sizeOf334
 v139 := Tryz.zeroValue334
 g3 := by kernel_rfl
 g4 := by kernel_rfl }
def Tryz.lays162_ren : Go.Shelf.Ren := ⟨fun | 162 => 330 | 232 => 356 | 227 => 347 | 234 => 357 | 236 => 358 | 228 => 363 | 271 => 373 | 151 => 365 | 120 => 386 | 197 => 364 | 152 => 376 | 260 => 375 | 137 => 387 | 119 => 388 | 224 => 379 | 225 => 378 | 217 => 377 | 266 => 389 | n => n, fun | 9 => 9 | 4 => 4 | 3 => 3 | 5 => 5 | 117 => 305 | 116 => 304 | 0 => 0 | 124 => 308 | 21 => 21 | 105 => 315 | 46 => 201 | 119 => 331 | 139 => 334 | 138 => 333 | n => n, fun | 3 => 2 | 4 => 3 | n => n⟩
theorem Tryz.lays162 : Go.Proofs.Lays.n162 Tryz.prog Tryz.lays162_ren := {
 mixed := by kernel_rfl
 f119 := Tryz.func388.trans (congrArg some (by kernel_rfl))
 f120 := Tryz.func386.trans (congrArg some (by kernel_rfl))
 f137 := Tryz.func387.trans (congrArg some (by kernel_rfl))
 f151 := Tryz.func365.trans (congrArg some (by kernel_rfl))
 f152 := Tryz.func376.trans (congrArg some (by kernel_rfl))
 f162 := Tryz.func330.trans (congrArg some (by kernel_rfl))
 f197 := Tryz.func364.trans (congrArg some (by kernel_rfl))
 f217 := Tryz.func377.trans (congrArg some (by kernel_rfl))
 f224 := Tryz.func379.trans (congrArg some (by kernel_rfl))
 f225 := Tryz.func378.trans (congrArg some (by kernel_rfl))
 f227 := Tryz.func347.trans (congrArg some (by kernel_rfl))
 f228 := Tryz.func363.trans (congrArg some (by kernel_rfl))
 f232 := Tryz.func356.trans (congrArg some (by kernel_rfl))
 f234 := Tryz.func357.trans (congrArg some (by kernel_rfl))
 f236 := Tryz.func358.trans (congrArg some (by kernel_rfl))
 f260 := Tryz.func375.trans (congrArg some (by kernel_rfl))
 f266 := Tryz.func389.trans (congrArg some (by kernel_rfl))
 f271 := Tryz.func373.trans (congrArg some (by kernel_rfl))
 t0 := Tryz.underlying0
 a0 := Tryz.isAgg0
 z0 := Tryz.sizeOf0
 v0 := Tryz.zeroValue0
 t3 := Tryz.underlying3
 a3 := Tryz.isAgg3
 z3 := Tryz.sizeOf3
 v3 := Tryz.zeroValue3
 t4 := Tryz.underlying4
 a4 := Tryz.isAgg4
 z4 := Tryz.sizeOf4
 v4 := Tryz.zeroValue4
 t5 := Tryz.underlying5
 a5 := Tryz.isAgg5
 z5 := Tryz.sizeOf5
 v5 := Tryz.zeroValue5
 t9 := Tryz.underlying9
 a9 := Tryz.isAgg9
 z9 := Tryz.sizeOf9
 v9 := Tryz.zeroValue9
 t21 := Tryz.underlying21
 a21 := Tryz.isAgg21
 z21 := Tryz.sizeOf21
 v21 := Tryz.zeroValue21
 t46 := Tryz.underlying201
 a46 := Tryz.isAgg201
 z46 := Tryz.sizeOf201
 v46 := Tryz.zeroValue201
 t105 := Tryz.underlying315
 a105 := Tryz.isAgg315
 z105 := Tryz.sizeOf315
 v105 := Tryz.zeroValue315
 t116 := Tryz.underlying304
 a116 := Tryz.isAgg304
 z116 := Tryz.sizeOf304
 t117 := Tryz.underlying305
 a117 := Tryz.isAgg305
 z117 := Tryz.sizeOf305
 v117 := Tryz.zeroValue305
 t119 := Tryz.underlying331
 a119 := Tryz.isAgg331
 z119 := Tryz.sizeOf331
 t124 := Tryz.underlying308
 a124 := Tryz.isAgg308
 z124 := Tryz.sizeOf308
 v124 := Tryz.zeroValue308
 t138 := Tryz.underlying333
 a138 := Tryz.isAgg333
 z138 := Tryz.sizeOf333
 v138 := Tryz.zeroValue333
 t139 := Tryz.underlying334
 a139 := Tryz.isAgg334
 z139 := Tryz.sizeOf334
 v139 := Tryz.zeroValue334
 g3 := by kernel_rfl
 g4 := by kernel_rfl }
open Go.RowKit in
theorem Tryz.strings_TrimRight_one (s : ByteArray) (c : UInt8) (hc : c.toNat < 128) (w : World) (hs : s.size ≤ 9223372036854775807) :
 Calls Tryz.prog 330 #[.string s, .string ⟨#[c]⟩] w fun e w' => e = .returned (.string ⟨(Lib.trimRightB s.data.toList c).toArray⟩) ∧ w' = w := Any.strings_TrimRight_one Tryz.lays162 s c hc w hs
def Tryz.lays103_ren : Go.Shelf.Ren := ⟨fun | 103 => 324 | 210 => 353 | 206 => 367 | n => n, fun | 9 => 9 | 4 => 4 | 24 => 66 | 3 => 3 | n => n, fun | n => n⟩
theorem Tryz.lays103 : Go.Proofs.Lays.n103 Tryz.prog Tryz.lays103_ren := {
 mixed := by kernel_rfl
 f103 := Tryz.func324.trans (congrArg some (by kernel_rfl))
 f206 := Tryz.func367.trans (congrArg some (by kernel_rfl))
 f210 := Tryz.func353.trans (congrArg some (by kernel_rfl))
 t3 := Tryz.underlying3
 a3 := Tryz.isAgg3
 z3 := Tryz.sizeOf3
 v3 := Tryz.zeroValue3
 t4 := Tryz.underlying4
 a4 := Tryz.isAgg4
 z4 := Tryz.sizeOf4
 v4 := Tryz.zeroValue4
 t9 := Tryz.underlying9
 a9 := Tryz.isAgg9
 z9 := Tryz.sizeOf9
 v9 := Tryz.zeroValue9
 t24 := Tryz.underlying66
 a24 := Tryz.isAgg66
 z24 := Tryz.sizeOf66
 v24 := Tryz.zeroValue66 }
open Go.RowKit in
theorem Tryz.strings_CutPrefix (s p : ByteArray) (w : World) :
 Calls Tryz.prog 324 #[.string s, .string p] w fun e w' => e = .returned (.tuple #[.string ⟨(Lib.trimPrefix s.data.toList p.data.toList).toArray⟩, .bool (Lib.hasPrefix s.data.toList p.data.toList)]) ∧ w' = w := Any.strings_CutPrefix Tryz.lays103 s p w
def Tryz.laysM173_ren : Go.Shelf.Ren := ⟨fun | 173 => 329 | 246 => 355 | 283 => 369 | 284 => 370 | 285 => 371 | 286 => 372 | 129 => 271 | 317 => 382 | 318 => 383 | 319 => 384 | 320 => 385 | 337 => 392 | 338 => 393 | n => n, fun | 2 => 2 | 3 => 3 | 9 => 9 | 4 => 4 | 171 => 320 | 0 => 0 | 53 => 122 | 37 => 22 | 5 => 5 | 173 => 322 | 212 => 328 | 51 => 243 | 20 => 20 | 213 => 329 | 46 => 201 | 232 => 339 | 233 => 340 | n => n, fun | 17 => 1 | 18 => 4 | 19 => 5 | n => n⟩
theorem Tryz.laysM173 : Go.Proofs.LaysM.n173 Tryz.prog Tryz.laysM173_ren := {
 mixed := by kernel_rfl
 f129 := Tryz.func271.trans (congrArg some (by kernel_rfl))
 f173 := Tryz.func329.trans (congrArg some (by kernel_rfl))
 f246 := Tryz.func355.trans (congrArg some (by kernel_rfl))
 f283 := Tryz.func369.trans (congrArg some (by kernel_rfl))
 f284 := Tryz.func370.trans (congrArg some (by kernel_rfl))
 f285 := Tryz.func371.trans (congrArg some (by kernel_rfl))
 f286 := Tryz.func372.trans (congrArg some (by kernel_rfl))
 f317 := Tryz.func382.trans (congrArg some (by kernel_rfl))
 f318 := Tryz.func383.trans (congrArg some (by kernel_rfl))
 f319 := Tryz.func384.trans (congrArg some (by kernel_rfl))
 f320 := Tryz.func385.trans (congrArg some (by kernel_rfl))
 f337 := Tryz.func392.trans (congrArg some (by kernel_rfl))
 f338 := Tryz.func393.trans (congrArg some (by kernel_rfl))
 t0 := Tryz.underlying0
 a0 := Tryz.isAgg0
 z0 := Tryz.sizeOf0
 v0 := Tryz.zeroValue0
 t2 := Tryz.underlying2
 a2 := Tryz.isAgg2
 z2 := Tryz.sizeOf2
 v2 := Tryz.zeroValue2
 t3 := Tryz.underlying3
 a3 := Tryz.isAgg3
 z3 := Tryz.sizeOf3
 v3 := Tryz.zeroValue3
 t4 := Tryz.underlying4
 a4 := Tryz.isAgg4
 z4 := Tryz.sizeOf4
 v4 := Tryz.zeroValue4
 t5 := Tryz.underlying5
 a5 := Tryz.isAgg5
 z5 := Tryz.sizeOf5
 v5 := Tryz.zeroValue5
 t9 := Tryz.underlying9
 a9 := Tryz.isAgg9
 z9 := Tryz.sizeOf9
 v9 := Tryz.zeroValue9
 t20 := Tryz.underlying20
 a20 := Tryz.isAgg20
 z20 := Tryz.sizeOf20
 v20 := Tryz.zeroValue20
 t37 := Tryz.underlying22
 a37 := Tryz.isAgg22
 z37 := Tryz.sizeOf22
 v37 := Tryz.zeroValue22
 t46 := Tryz.underlying201
 a46 := Tryz.isAgg201
 z46 := Tryz.sizeOf201
 v46 := Tryz.zeroValue201
 t51 := Tryz.underlying243
 a51 := Tryz.isAgg243
 z51 := Tryz.sizeOf243
 v51 := Tryz.zeroValue243
 t53 := Tryz.underlying122
 a53 := Tryz.isAgg122
 z53 := Tryz.sizeOf122
 v53 := Tryz.zeroValue122
 t171 := Tryz.underlying320
 a171 := Tryz.isAgg320
 z171 := Tryz.sizeOf320
 v171 := Tryz.zeroValue320
 t173 := Tryz.underlying322
 a173 := Tryz.isAgg322
 z173 := Tryz.sizeOf322
 v173 := Tryz.zeroValue322
 t212 := Tryz.underlying328
 a212 := Tryz.isAgg328
 z212 := Tryz.sizeOf328
 v212 := Tryz.zeroValue328
 t213 := Tryz.underlying329
 a213 := Tryz.isAgg329
 z213 := Tryz.sizeOf329
 t232 := Tryz.underlying339
 a232 := Tryz.isAgg339
 z232 := Tryz.sizeOf339
 v232 := Tryz.zeroValue339
 t233 := Tryz.underlying340
 a233 := Tryz.isAgg340
 z233 := Tryz.sizeOf340
 v233 := Tryz.zeroValue340
 g17 := by kernel_rfl
 g18 := by kernel_rfl
 g19 := by kernel_rfl
 i0 := by kernel_rfl
 i2 := by kernel_rfl
 i3 := by kernel_rfl
 i4 := by kernel_rfl
 i5 := by kernel_rfl
 i9 := by kernel_rfl
 i20 := by kernel_rfl
 i37 := by kernel_rfl
 i46 := by kernel_rfl
 i51 := by kernel_rfl
 i53 := by kernel_rfl
 i171 := by kernel_rfl
 i173 := by kernel_rfl
 i212 := by kernel_rfl
 i232 := by kernel_rfl
 i233 := by kernel_rfl
 m17 := by kernel_rfl
 m18 := by kernel_rfl
 m19 := by kernel_rfl }
open Go.RowKit Go.Sort Go.Lib in
theorem Tryz.strconv_FormatInt_10 (n : Int) (h0 : -9223372036854775808 ≤ n) (h1 : n ≤ 9223372036854775807) (w : World) (htab : Lib.TabIs Tryz.prog w "internal/strconv.uint64pow10" .u64 Lib.pow10Tab) :
 Calls Tryz.prog 329 #[.int .i64 n, .int .i64 10] w fun e w' => e = .returned (.string ⟨(Lib.itoa n).toArray⟩) ∧ ∃ k os, w' = grow (w.drewN k) os := Any.strconv_FormatInt_10 Tryz.laysM173 n h0 h1 w htab
def Tryz.lays138_ren : Go.Shelf.Ren := ⟨fun | 138 => 322 | 195 => 350 | 218 => 351 | 143 => 352 | 219 => 366 | 217 => 377 | 225 => 378 | 224 => 379 | 267 => 380 | 266 => 389 | 314 => 390 | n => n, fun | 9 => 9 | 3 => 3 | 4 => 4 | 5 => 5 | 0 => 0 | 46 => 201 | 146 => 336 | 51 => 243 | n => n, fun | 1 => 0 | n => n⟩
theorem Tryz.lays138 : Go.Proofs.Lays.n138 Tryz.prog Tryz.lays138_ren := {
 mixed := by kernel_rfl
 f138 := Tryz.func322.trans (congrArg some (by kernel_rfl))
 f143 := Tryz.func352.trans (congrArg some (by kernel_rfl))
 f195 := Tryz.func350.trans (congrArg some (by kernel_rfl))
 f217 := Tryz.func377.trans (congrArg some (by kernel_rfl))
 f218 := Tryz.func351.trans (congrArg some (by kernel_rfl))
 f219 := Tryz.func366.trans (congrArg some (by kernel_rfl))
 f224 := Tryz.func379.trans (congrArg some (by kernel_rfl))
 f225 := Tryz.func378.trans (congrArg some (by kernel_rfl))
 f266 := Tryz.func389.trans (congrArg some (by kernel_rfl))
 f267 := Tryz.func380.trans (congrArg some (by kernel_rfl))
 f314 := Tryz.func390.trans (congrArg some (by kernel_rfl))
 t0 := Tryz.underlying0
 a0 := Tryz.isAgg0
 z0 := Tryz.sizeOf0
 v0 := Tryz.zeroValue0
 t3 := Tryz.underlying3
 a3 := Tryz.isAgg3
 z3 := Tryz.sizeOf3
 v3 := Tryz.zeroValue3
 t4 := Tryz.underlying4
 a4 := Tryz.isAgg4
 z4 := Tryz.sizeOf4
 v4 := Tryz.zeroValue4
 t5 := Tryz.underlying5
 a5 := Tryz.isAgg5
 z5 := Tryz.sizeOf5
 v5 := Tryz.zeroValue5
 t9 := Tryz.underlying9
 a9 := Tryz.isAgg9
 z9 := Tryz.sizeOf9
 v9 := Tryz.zeroValue9
 t46 := Tryz.underlying201
 a46 := Tryz.isAgg201
 z46 := Tryz.sizeOf201
 v46 := Tryz.zeroValue201
 t51 := Tryz.underlying243
 a51 := Tryz.isAgg243
 z51 := Tryz.sizeOf243
 v51 := Tryz.zeroValue243
 t146 := Tryz.underlying336
 a146 := Tryz.isAgg336
 z146 := Tryz.sizeOf336
 v146 := Tryz.zeroValue336
 g1 := by kernel_rfl }
open Go.RowKit Go.Lib in
theorem Tryz.strings_Count_one (s : ByteArray) (c : UInt8) (w : World) :
 Calls Tryz.prog 322 #[.string s, .string ⟨#[c]⟩] w fun e w' => e = .returned (.int .i64 (Lib.countByte s.data.toList c)) ∧ w' = w := Any.strings_Count_one Tryz.lays138 s c w
open Go.RowKit Go.Lib in
theorem Tryz.strings_TrimLeft_set (s cutset : ByteArray) (w : World) (hcs : cutset.size < 4294967281) (hascii : ∀ (j : Nat) b, cutset.data.toList[j]? = some b → b.toNat < 128) :
 Calls Tryz.prog 321 #[.string s, .string cutset] w fun e w' => e = .returned (.string ⟨(Lib.trimLeftS s.data.toList cutset.data.toList).toArray⟩) ∧ Below w.heap.size w w' :=
 Any.strings_TrimLeft_laid Tryz.lays161 (by kernel_rfl) s cutset w hcs hascii
end Go.Proofs
namespace Go.Proofs.YtlicffeicmoifaaGreatDoor
def isD (c : UInt8) : Bool := decide (48 ≤ c.toNat) && decide (c.toNat ≤ 57)
def isSg (c : UInt8) : Bool := decide (c = 43) || decide (c = 45)
def dV (c : UInt8) : Nat := c.toNat - 48
def maxNum : Nat := 999999999999999999
def skipS : List UInt8 → Bool → Bool × List UInt8
 | [], m => (m, [])
 | c :: r, m => if isSg c = true then skipS r (m != decide (c = 45)) else (m, c :: r)
def digW : List UInt8 → Nat → Nat × List UInt8
 | [], n => (n, [])
 | c :: r, n => if isD c = true then digW r (min (10 * n + dV c) 1000000000000) else (n, c :: r)
def fracW : List UInt8 → Nat → Nat → Nat
 | [], _, n => n
 | c :: r, u, n => if isD c = true then fracW r (u / 10) (n + dV c * u) else n
def behind : List UInt8 → Option (List UInt8)
 | [] => none
 | c :: r => if c = 46 then some r else none
def withFrac : Option (List UInt8) → Nat → Nat
 | some t, n => fracW t 100000 n
 | none, n => n
def absS (l : List UInt8) : Nat := min (withFrac (behind (digW l 0).2) (min ((digW l 0).1 * 1000000) 1000000000000000000)) maxNum
def numS (l : List UInt8) : Int := if (skipS l false).1 = true then -(absS (skipS l false).2 : Int) else absS (skipS l false).2
def scaledN : List UInt8 → Nat → Nat
 | [], n => n
 | c :: r, n => if (maxNum - dV c) / 10 < n then maxNum else scaledN r (10 * n + dV c)
def fracI (r : List UInt8) : List UInt8 := match behind (r.dropWhile isD) with
 | some t => t.takeWhile isD
 | none => []
def absI (r : List UInt8) : Nat := scaledN (r.takeWhile isD ++ (fracI r ++ List.replicate 6 48).take 6) 0
def numI (l : List UInt8) : Int := if (l.takeWhile isSg).count 45 % 2 = 1 then -(absI (l.dropWhile isSg) : Int) else absI (l.dropWhile isSg)
theorem skipS_eq : ∀ (l : List UInt8) (m : Bool), skipS l m = ((m != decide ((l.takeWhile isSg).count 45 % 2 = 1)), l.dropWhile isSg)
 | [], m => by simp [skipS]
 | c :: r, m => by
   unfold skipS
   by_cases h : isSg c = true
   · rw [if_pos h, skipS_eq r, List.takeWhile_cons_of_pos h, List.dropWhile_cons_of_pos h]
     refine Prod.ext ?_ rfl
     by_cases hc : c = 45
     · subst hc
       rw [List.count_cons_self]
       cases m <;> by_cases h2 : (r.takeWhile isSg).count 45 % 2 = 1 <;> simp [h2] <;> omega
     · rw [List.count_cons_of_ne hc]
       simp [hc]
   · rw [if_neg h, List.takeWhile_cons_of_neg h, List.dropWhile_cons_of_neg h]
     simp
def valN (l : List UInt8) (n : Nat) : Nat := l.foldl (fun n c => 10 * n + dV c) n
theorem valN_ge : ∀ (l : List UInt8) (n : Nat), n ≤ valN l n
 | [], n => Nat.le_refl _
 | c :: r, n => by
   have := valN_ge r (10 * n + dV c)
   show n ≤ valN r (10 * n + dV c)
   omega
theorem digW_eq : ∀ (l : List UInt8) (n : Nat), n ≤ 1000000000000 → digW l n = (min (valN (l.takeWhile isD) n) 1000000000000, l.dropWhile isD)
 | [], n, h => by simp [digW, valN]; omega
 | c :: r, n, h => by
   unfold digW
   by_cases hd : isD c = true
   · rw [if_pos hd, digW_eq r _ (by omega), List.takeWhile_cons_of_pos hd, List.dropWhile_cons_of_pos hd]
     refine Prod.ext ?_ rfl
     show min (valN (r.takeWhile isD) (min (10 * n + dV c) 1000000000000)) 1000000000000 = min (valN (r.takeWhile isD) (10 * n + dV c)) 1000000000000
     by_cases hc : 10 * n + dV c ≤ 1000000000000
     · rw [Nat.min_eq_left hc]
     · rw [Nat.min_eq_right (show 1000000000000 ≤ 10 * n + dV c by omega)]
       have h1 := valN_ge (r.takeWhile isD) 1000000000000
       have h2 := valN_ge (r.takeWhile isD) (10 * n + dV c)
       omega
   · rw [if_neg hd, List.takeWhile_cons_of_neg hd, List.dropWhile_cons_of_neg hd]
     refine Prod.ext ?_ rfl
     show n = min (valN [] n) 1000000000000
     simp [valN]; omega
def fv : Nat → List UInt8 → Nat
 | 0, _ => 0
 | _ + 1, [] => 0
 | k + 1, c :: r => if isD c = true then dV c * 10 ^ k + fv k r else 0
def unitOf : Nat → Nat
 | 0 => 0
 | k + 1 => 10 ^ k
theorem unit_div : ∀ k, unitOf k / 10 = unitOf (k - 1)
 | 0 => rfl
 | 1 => rfl
 | k + 2 => by
   show 10 ^ (k + 1) / 10 = 10 ^ k
   rw [Nat.pow_succ]; omega
theorem fracW_eq : ∀ (t : List UInt8) (k n : Nat), fracW t (unitOf k) n = n + fv k t
 | [], 0, n => rfl
 | [], k + 1, n => rfl
 | c :: r, k, n => by
   unfold fracW
   by_cases hd : isD c = true
   · rw [if_pos hd, unit_div, fracW_eq r]
     cases k with
     | zero => simp [unitOf, fv]
     | succ k =>
       simp only [fv, if_pos hd, unitOf, Nat.add_sub_cancel]
       omega
   · rw [if_neg hd]
     cases k with
     | zero => simp [fv]
     | succ k => simp [fv, hd]
theorem dV_le (c : UInt8) (h : isD c = true) : dV c ≤ 9 := by
 simp [isD] at h
 unfold dV
 omega
theorem fv_lt : ∀ (k : Nat) (t : List UInt8), fv k t < 10 ^ k
 | 0, _ => by simp [fv]
 | k + 1, [] => by simp [fv]; exact Nat.pow_pos (by omega)
 | k + 1, c :: r => by
   unfold fv
   split
   · rename_i hd
     have h1 := fv_lt k r
     have h2 := dV_le c hd
     have h3 : dV c * 10 ^ k ≤ 9 * 10 ^ k := Nat.mul_le_mul_right _ h2
     rw [Nat.pow_succ]; omega
   · exact Nat.pow_pos (by omega)
theorem valN_zeros : ∀ (k a : Nat), valN (List.replicate k 48) a = a * 10 ^ k
 | 0, a => by simp [valN]
 | k + 1, a => by
   show valN (List.replicate k 48) (10 * a + dV 48) = _
   rw [valN_zeros k, Nat.pow_succ]
   have : dV 48 = 0 := rfl
   rw [this, Nat.add_zero, Nat.mul_comm 10 a, Nat.mul_assoc, Nat.mul_comm 10]
theorem valN_frac : ∀ (k : Nat) (t : List UInt8) (a : Nat), valN ((t.takeWhile isD ++ List.replicate k 48).take k) a = a * 10 ^ k + fv k t
 | 0, t, a => by simp [valN, fv]
 | k + 1, [], a => by
   rw [List.takeWhile_nil, List.nil_append, List.take_of_length_le (by simp), valN_zeros]
   simp [fv]
 | k + 1, c :: r, a => by
   by_cases hd : isD c = true
   · rw [List.takeWhile_cons_of_pos hd]
     show valN ((r.takeWhile isD ++ List.replicate (k + 1) 48).take k) (10 * a + dV c) = _
     have e : (r.takeWhile isD ++ List.replicate (k + 1) 48).take k = (r.takeWhile isD ++ List.replicate k 48).take k := by
      rw [List.replicate_succ', ← List.append_assoc, List.take_append_of_le_length (by simp)]
     rw [e, valN_frac k r]
     simp only [fv, if_pos hd, Nat.pow_succ]
     rw [Nat.add_mul, Nat.mul_comm 10 a, Nat.mul_assoc, Nat.mul_comm 10]
     omega
   · rw [List.takeWhile_cons_of_neg hd, List.nil_append, List.take_of_length_le (by simp), valN_zeros]
     simp [fv, hd]
theorem scaledN_eq : ∀ (l : List UInt8) (n : Nat), (∀ c ∈ l, dV c ≤ 9) → n ≤ maxNum → scaledN l n = min (valN l n) maxNum
 | [], n, _, h => by simp [scaledN, valN]; omega
 | c :: r, n, hl, h => by
   have hc := hl c List.mem_cons_self
   unfold scaledN
   have hm : maxNum = 999999999999999999 := rfl
   split
   · rename_i h1
     have h2 : maxNum < 10 * n + dV c := by omega
     have h3 := valN_ge r (10 * n + dV c)
     show maxNum = min (valN r (10 * n + dV c)) maxNum
     omega
   · exact scaledN_eq r _ (fun x hx => hl x (List.mem_cons_of_mem _ hx)) (by omega)
theorem mem_takeWhile {p : UInt8 → Bool} : ∀ (l : List UInt8) (c : UInt8), c ∈ l.takeWhile p → p c = true
 | [], c, h => by simp at h
 | x :: r, c, h => by
   by_cases hx : p x = true
   · rw [List.takeWhile_cons_of_pos hx] at h
     rcases List.mem_cons.1 h with rfl | h
     · exact hx
     · exact mem_takeWhile r c h
   · rw [List.takeWhile_cons_of_neg hx] at h; cases h
theorem absI_eq (r : List UInt8) : absI r = absS r := by
 unfold absI absS
 rw [digW_eq r 0 (by omega)]
 have hm : maxNum = 999999999999999999 := rfl
 have hall : ∀ c ∈ r.takeWhile isD ++ (fracI r ++ List.replicate 6 48).take 6, dV c ≤ 9 := by
  intro c hc
  rcases List.mem_append.1 hc with h | h
  · exact dV_le c (mem_takeWhile _ _ h)
  · rcases List.mem_append.1 (List.mem_of_mem_take h) with h | h
    · unfold fracI at h
      split at h
      · exact dV_le c (mem_takeWhile _ _ h)
      · cases h
    · rw [List.eq_of_mem_replicate h]; decide
 rw [scaledN_eq _ _ hall (by omega)]
 have hv : valN (r.takeWhile isD ++ (fracI r ++ List.replicate 6 48).take 6) 0 = valN (r.takeWhile isD) 0 * 10 ^ 6 + (match behind (r.dropWhile isD) with | some t => fv 6 t | none => 0) := by
  show List.foldl _ 0 _ = _
  rw [List.foldl_append]
  show valN _ (valN _ 0) = _
  unfold fracI
  cases behind (r.dropWhile isD) with
  | some t => exact valN_frac 6 t _
  | none =>
    have := valN_frac 6 [] (valN (r.takeWhile isD) 0)
    simpa [fv] using this
 rw [hv]
 simp only
 cases behind (r.dropWhile isD) with
 | some t =>
   have h1 := fracW_eq t 6 (min (min (valN (r.takeWhile isD) 0) 1000000000000 * 1000000) 1000000000000000000)
   have h2 : unitOf 6 = 100000 := rfl
   rw [h2] at h1
   simp only [withFrac, h1]
   have h3 := fv_lt 6 t
   omega
 | none => simp only [withFrac]; omega
theorem numI_eq (l : List UInt8) : numI l = numS l := by
 unfold numI numS
 rw [skipS_eq]
 simp only [absI_eq]
 by_cases h : (l.takeWhile isSg).count 45 % 2 = 1 <;> simp [h]
theorem absS_le (l : List UInt8) : absS l ≤ maxNum := by unfold absS; exact Nat.min_le_right _ _
theorem numS_bd (l : List UInt8) : -(maxNum : Int) ≤ numS l ∧ numS l ≤ maxNum := by
 have := absS_le (skipS l false).2
 unfold numS
 split <;> omega
end Go.Proofs.YtlicffeicmoifaaGreatDoor
