import Derived.Test.YtgmaamnofhmecaaGreatDoorProg
import Derived.Test.YtgmaamnofhmecaaGreatDoorY00
import Derived.Test.YtgmaamnofhmecaaGreatDoorY01
import Derived.Ground.GgwProg
import Derived.Ground.Names2Prog
import Derived.Ground.SlgnProg
import Derived.Shelf.GgClosure.StringsIndexFunc
import Derived.Shelf.GgClosure.StringsIndexFuncTop
import Derived.Shelf.LaysM
import Derived.Shelf.Slices.Cells
import Derived.Shelf.Slices.Clone
import Derived.Shelf.Slices.CompactS
import Derived.Shelf.Slices.Empties2
import Derived.Shelf.Slices.Equal
import Derived.Shelf.Slices.Turned
import Derived.Shelf.SlicesE.Clone
import Derived.Shelf.SlicesG.SearchI
import Derived.Shelf.Small.Bits
import Derived.Shelf.Small.Strs
import Derived.Shelf.Small.Utf8
import Derived.Shelf.Small.Wraps
import Derived.Shelf.Strconv.Itoa0
import Derived.Shelf.Strconv.Itoa1
import Derived.Shelf.Strconv.Itoa2
import Derived.Shelf.Strconv.Itoa3
import Derived.Shelf.Strconv.Itoa4
import Derived.Shelf.Strings.AsciiSet
import Derived.Shelf.Strings.Builder1
import Derived.Shelf.Strings.Builder2
import Derived.Shelf.Strings.Count
import Derived.Shelf.Strings.Explode
import Derived.Shelf.Strings.FuncGrows
import Derived.Shelf.Strings.OnBuilder
import Derived.Shelf.Strings.Prefix
import Derived.Shelf.Strings.Replace
import Derived.Shelf.Strings.RuneCount
import Derived.Shelf.Strings.Runes
import Derived.Shelf.Strings.Search1
import Derived.Shelf.Strings.Search2
import Derived.Shelf.Strings.Search3
import Derived.Shelf.Strings.Shaped
import Derived.Shelf.Strings.SlTrimAscii
import Derived.Shelf.Strings.Split
import Derived.Shelf.Strings.SplitShaped
import Derived.Shelf.Strings.Trim
import Derived.Shelf.Unicode.Decode
import Derived.Shelf.Unicode.DecodeAny
import Derived.Shelf.Unicode.DecodeLast
import Derived.Shelf.Unicode.DecodeSlow
import Derived.Shelf.Utf8.RuneCount
set_option linter.unusedSimpArgs false
namespace Go.Proofs
open Go.Shelf
def Tryz.lays161_ren:Go.Shelf.Ren:=⟨fun | 161=>279 | 231=>303 | 227=>304 | 233=>305 | 235=>306 | 228=>330 | 197=>295 | 151=>331 | 260=>321 | 152=>346 | 137=>353 | 119=>354 | 224=>324 | 225=>323 | 217=>322 | 266=>339 | n=>n,fun | 9=>9 | 4=>4 | 3=>3 | 5=>5 | 117=>252 | 116=>251 | 0=>0 | 124=>255 | 105=>242 | 21=>21 | 119=>276 | 46=>201 | 139=>279 | 138=>278 | n=>n,fun | 3=>1 | 4=>2 | n=>n⟩
theorem Tryz.lays161:Go.Proofs.Lays.n161 Tryz.prog Tryz.lays161_ren:={
 mixed:=by kernel_rfl
 f119:=Tryz.func354.trans (congrArg some (by kernel_rfl))
 f137:=Tryz.func353.trans (congrArg some (by kernel_rfl))
 f151:=Tryz.func331.trans (congrArg some (by kernel_rfl))
 f152:=Tryz.func346.trans (congrArg some (by kernel_rfl))
 f161:=Tryz.func279.trans (congrArg some (by kernel_rfl))
 f197:=Tryz.func295.trans (congrArg some (by kernel_rfl))
 f217:=Tryz.func322.trans (congrArg some (by kernel_rfl))
 f224:=Tryz.func324.trans (congrArg some (by kernel_rfl))
 f225:=Tryz.func323.trans (congrArg some (by kernel_rfl))
 f227:=Tryz.func304.trans (congrArg some (by kernel_rfl))
 f228:=Tryz.func330.trans (congrArg some (by kernel_rfl))
 f231:=Tryz.func303.trans (congrArg some (by kernel_rfl))
 f233:=Tryz.func305.trans (congrArg some (by kernel_rfl))
 f235:=Tryz.func306.trans (congrArg some (by kernel_rfl))
 f260:=Tryz.func321.trans (congrArg some (by kernel_rfl))
 f266:=Tryz.func339.trans (congrArg some (by kernel_rfl))
 t0:=Tryz.underlying0
 a0:=Tryz.isAgg0
 z0:=Tryz.sizeOf0
 v0:=Tryz.zeroValue0
 t3:=Tryz.underlying3
 a3:=Tryz.isAgg3
 z3:=Tryz.sizeOf3
 v3:=Tryz.zeroValue3
 t4:=Tryz.underlying4
 a4:=Tryz.isAgg4
 z4:=Tryz.sizeOf4
 v4:=Tryz.zeroValue4
 t5:=Tryz.underlying5
 a5:=Tryz.isAgg5
 z5:=Tryz.sizeOf5
 v5:=Tryz.zeroValue5
 t9:=Tryz.underlying9
 a9:=Tryz.isAgg9
 z9:=Tryz.sizeOf9
 v9:=Tryz.zeroValue9
 t21:=Tryz.underlying21
 a21:=Tryz.isAgg21
 z21:=Tryz.sizeOf21
 v21:=Tryz.zeroValue21
 t46:=Tryz.underlying201
 a46:=Tryz.isAgg201
 z46:=Tryz.sizeOf201
 v46:=Tryz.zeroValue201
 t105:=Tryz.underlying242
 a105:=Tryz.isAgg242
 z105:=Tryz.sizeOf242
 v105:=Tryz.zeroValue242
 t116:=Tryz.underlying251
 a116:=Tryz.isAgg251
 z116:=Tryz.sizeOf251
 t117:=Tryz.underlying252
 a117:=Tryz.isAgg252
 z117:=Tryz.sizeOf252
 v117:=Tryz.zeroValue252
 t119:=Tryz.underlying276
 a119:=Tryz.isAgg276
 z119:=Tryz.sizeOf276
 t124:=Tryz.underlying255
 a124:=Tryz.isAgg255
 z124:=Tryz.sizeOf255
 v124:=Tryz.zeroValue255
 t138:=Tryz.underlying278
 a138:=Tryz.isAgg278
 z138:=Tryz.sizeOf278
 v138:=Tryz.zeroValue278
 t139:=Tryz.underlying279
 a139:=Tryz.isAgg279
 z139:=Tryz.sizeOf279
 v139:=Tryz.zeroValue279
 g3:=by kernel_rfl
 g4:=by kernel_rfl }
def Tryz.lays162_ren:Go.Shelf.Ren:=⟨fun | 162=>302 | 232=>327 | 227=>304 | 234=>328 | 236=>329 | 228=>330 | 271=>345 | 151=>331 | 120=>352 | 197=>295 | 152=>346 | 260=>321 | 137=>353 | 119=>354 | 224=>324 | 225=>323 | 217=>322 | 266=>339 | n=>n,fun | 9=>9 | 4=>4 | 3=>3 | 5=>5 | 117=>252 | 116=>251 | 0=>0 | 124=>255 | 21=>21 | 105=>242 | 46=>201 | 119=>276 | 139=>279 | 138=>278 | n=>n,fun | 3=>1 | 4=>2 | n=>n⟩
theorem Tryz.lays162:Go.Proofs.Lays.n162 Tryz.prog Tryz.lays162_ren:={
 mixed:=by kernel_rfl
 f119:=Tryz.func354.trans (congrArg some (by kernel_rfl))
 f120:=Tryz.func352.trans (congrArg some (by kernel_rfl))
 f137:=Tryz.func353.trans (congrArg some (by kernel_rfl))
 f151:=Tryz.func331.trans (congrArg some (by kernel_rfl))
 f152:=Tryz.func346.trans (congrArg some (by kernel_rfl))
 f162:=Tryz.func302.trans (congrArg some (by kernel_rfl))
 f197:=Tryz.func295.trans (congrArg some (by kernel_rfl))
 f217:=Tryz.func322.trans (congrArg some (by kernel_rfl))
 f224:=Tryz.func324.trans (congrArg some (by kernel_rfl))
 f225:=Tryz.func323.trans (congrArg some (by kernel_rfl))
 f227:=Tryz.func304.trans (congrArg some (by kernel_rfl))
 f228:=Tryz.func330.trans (congrArg some (by kernel_rfl))
 f232:=Tryz.func327.trans (congrArg some (by kernel_rfl))
 f234:=Tryz.func328.trans (congrArg some (by kernel_rfl))
 f236:=Tryz.func329.trans (congrArg some (by kernel_rfl))
 f260:=Tryz.func321.trans (congrArg some (by kernel_rfl))
 f266:=Tryz.func339.trans (congrArg some (by kernel_rfl))
 f271:=Tryz.func345.trans (congrArg some (by kernel_rfl))
 t0:=Tryz.underlying0
 a0:=Tryz.isAgg0
 z0:=Tryz.sizeOf0
 v0:=Tryz.zeroValue0
 t3:=Tryz.underlying3
 a3:=Tryz.isAgg3
 z3:=Tryz.sizeOf3
 v3:=Tryz.zeroValue3
 t4:=Tryz.underlying4
 a4:=Tryz.isAgg4
 z4:=Tryz.sizeOf4
 v4:=Tryz.zeroValue4
 t5:=Tryz.underlying5
 a5:=Tryz.isAgg5
 z5:=Tryz.sizeOf5
 v5:=Tryz.zeroValue5
 t9:=Tryz.underlying9
 a9:=Tryz.isAgg9
 z9:=Tryz.sizeOf9
 v9:=Tryz.zeroValue9
 t21:=Tryz.underlying21
 a21:=Tryz.isAgg21
 z21:=Tryz.sizeOf21
 v21:=Tryz.zeroValue21
 t46:=Tryz.underlying201
 a46:=Tryz.isAgg201
 z46:=Tryz.sizeOf201
 v46:=Tryz.zeroValue201
 t105:=Tryz.underlying242
 a105:=Tryz.isAgg242
 z105:=Tryz.sizeOf242
 v105:=Tryz.zeroValue242
 t116:=Tryz.underlying251
 a116:=Tryz.isAgg251
 z116:=Tryz.sizeOf251
 t117:=Tryz.underlying252
 a117:=Tryz.isAgg252
 z117:=Tryz.sizeOf252
 v117:=Tryz.zeroValue252
 t119:=Tryz.underlying276
 a119:=Tryz.isAgg276
 z119:=Tryz.sizeOf276
 t124:=Tryz.underlying255
 a124:=Tryz.isAgg255
 z124:=Tryz.sizeOf255
 v124:=Tryz.zeroValue255
 t138:=Tryz.underlying278
 a138:=Tryz.isAgg278
 z138:=Tryz.sizeOf278
 v138:=Tryz.zeroValue278
 t139:=Tryz.underlying279
 a139:=Tryz.isAgg279
 z139:=Tryz.sizeOf279
 v139:=Tryz.zeroValue279
 g3:=by kernel_rfl
 g4:=by kernel_rfl }
open Go.RowKit in
theorem Tryz.strings_TrimRight_one (s:ByteArray) (c:UInt8) (hc:c.toNat<128) (w:World) (hs:s.size≤9223372036854775807) :
 Calls Tryz.prog 302 #[.string s,.string ⟨#[c]⟩] w fun e w'=>e=.returned (.string ⟨(Lib.trimRightB s.data.toList c).toArray⟩)∧w'=w:=Any.strings_TrimRight_one Tryz.lays162 s c hc w hs
def Tryz.lays103_ren:Go.Shelf.Ren:=⟨fun | 103=>281 | 210=>307 | 206=>332 | n=>n,fun | 9=>9 | 4=>4 | 24=>73 | 3=>3 | n=>n,fun | n=>n⟩
theorem Tryz.lays103:Go.Proofs.Lays.n103 Tryz.prog Tryz.lays103_ren:={
 mixed:=by kernel_rfl
 f103:=Tryz.func281.trans (congrArg some (by kernel_rfl))
 f206:=Tryz.func332.trans (congrArg some (by kernel_rfl))
 f210:=Tryz.func307.trans (congrArg some (by kernel_rfl))
 t3:=Tryz.underlying3
 a3:=Tryz.isAgg3
 z3:=Tryz.sizeOf3
 v3:=Tryz.zeroValue3
 t4:=Tryz.underlying4
 a4:=Tryz.isAgg4
 z4:=Tryz.sizeOf4
 v4:=Tryz.zeroValue4
 t9:=Tryz.underlying9
 a9:=Tryz.isAgg9
 z9:=Tryz.sizeOf9
 v9:=Tryz.zeroValue9
 t24:=Tryz.underlying73
 a24:=Tryz.isAgg73
 z24:=Tryz.sizeOf73
 v24:=Tryz.zeroValue73 }
open Go.RowKit in
theorem Tryz.strings_CutPrefix (s p:ByteArray) (w:World) :
 Calls Tryz.prog 281 #[.string s,.string p] w fun e w'=>e=.returned (.tuple #[.string ⟨(Lib.trimPrefix s.data.toList p.data.toList).toArray⟩,.bool (Lib.hasPrefix s.data.toList p.data.toList)])∧w'=w:=Any.strings_CutPrefix Tryz.lays103 s p w
def Tryz.laysM173_ren:Go.Shelf.Ren:=⟨fun | 173=>301 | 246=>326 | 283=>341 | 284=>342 | 285=>343 | 286=>344 | 129=>320 | 317=>348 | 318=>349 | 319=>350 | 320=>351 | 337=>355 | 338=>356 | n=>n,fun | 2=>2 | 3=>3 | 9=>9 | 4=>4 | 171=>283 | 0=>0 | 53=>139 | 37=>22 | 5=>5 | 173=>285 | 212=>292 | 51=>265 | 20=>20 | 213=>293 | 46=>201 | 232=>295 | 233=>296 | n=>n,fun | 17=>3 | 18=>4 | 19=>5 | n=>n⟩
theorem Tryz.laysM173:Go.Proofs.LaysM.n173 Tryz.prog Tryz.laysM173_ren:={
 mixed:=by kernel_rfl
 f129:=Tryz.func320.trans (congrArg some (by kernel_rfl))
 f173:=Tryz.func301.trans (congrArg some (by kernel_rfl))
 f246:=Tryz.func326.trans (congrArg some (by kernel_rfl))
 f283:=Tryz.func341.trans (congrArg some (by kernel_rfl))
 f284:=Tryz.func342.trans (congrArg some (by kernel_rfl))
 f285:=Tryz.func343.trans (congrArg some (by kernel_rfl))
 f286:=Tryz.func344.trans (congrArg some (by kernel_rfl))
 f317:=Tryz.func348.trans (congrArg some (by kernel_rfl))
 f318:=Tryz.func349.trans (congrArg some (by kernel_rfl))
 f319:=Tryz.func350.trans (congrArg some (by kernel_rfl))
 f320:=Tryz.func351.trans (congrArg some (by kernel_rfl))
 f337:=Tryz.func355.trans (congrArg some (by kernel_rfl))
 f338:=Tryz.func356.trans (congrArg some (by kernel_rfl))
 t0:=Tryz.underlying0
 a0:=Tryz.isAgg0
 z0:=Tryz.sizeOf0
 v0:=Tryz.zeroValue0
 t2:=Tryz.underlying2
 a2:=Tryz.isAgg2
 z2:=Tryz.sizeOf2
 v2:=Tryz.zeroValue2
 t3:=Tryz.underlying3
 a3:=Tryz.isAgg3
 z3:=Tryz.sizeOf3
 v3:=Tryz.zeroValue3
 t4:=Tryz.underlying4
 a4:=Tryz.isAgg4
 z4:=Tryz.sizeOf4
 v4:=Tryz.zeroValue4
 t5:=Tryz.underlying5
 a5:=Tryz.isAgg5
 z5:=Tryz.sizeOf5
 v5:=Tryz.zeroValue5
 t9:=Tryz.underlying9
 a9:=Tryz.isAgg9
 z9:=Tryz.sizeOf9
 v9:=Tryz.zeroValue9
 t20:=Tryz.underlying20
 a20:=Tryz.isAgg20
 z20:=Tryz.sizeOf20
 v20:=Tryz.zeroValue20
 t37:=Tryz.underlying22
 a37:=Tryz.isAgg22
 z37:=Tryz.sizeOf22
 v37:=Tryz.zeroValue22
 t46:=Tryz.underlying201
 a46:=Tryz.isAgg201
 z46:=Tryz.sizeOf201
 v46:=Tryz.zeroValue201
 t51:=Tryz.underlying265
 a51:=Tryz.isAgg265
 z51:=Tryz.sizeOf265
 v51:=Tryz.zeroValue265
 t53:=Tryz.underlying139
 a53:=Tryz.isAgg139
 z53:=Tryz.sizeOf139
 v53:=Tryz.zeroValue139
 t171:=Tryz.underlying283
 a171:=Tryz.isAgg283
 z171:=Tryz.sizeOf283
 v171:=Tryz.zeroValue283
 t173:=Tryz.underlying285
 a173:=Tryz.isAgg285
 z173:=Tryz.sizeOf285
 v173:=Tryz.zeroValue285
 t212:=Tryz.underlying292
 a212:=Tryz.isAgg292
 z212:=Tryz.sizeOf292
 v212:=Tryz.zeroValue292
 t213:=Tryz.underlying293
 a213:=Tryz.isAgg293
 z213:=Tryz.sizeOf293
 t232:=Tryz.underlying295
 a232:=Tryz.isAgg295
 z232:=Tryz.sizeOf295
 v232:=Tryz.zeroValue295
 t233:=Tryz.underlying296
 a233:=Tryz.isAgg296
 z233:=Tryz.sizeOf296
 v233:=Tryz.zeroValue296
 g17:=by kernel_rfl
 g18:=by kernel_rfl
 g19:=by kernel_rfl
 i0:=by kernel_rfl
 i2:=by kernel_rfl
 i3:=by kernel_rfl
 i4:=by kernel_rfl
 i5:=by kernel_rfl
 i9:=by kernel_rfl
 i20:=by kernel_rfl
 i37:=by kernel_rfl
 i46:=by kernel_rfl
 i51:=by kernel_rfl
 i53:=by kernel_rfl
 i171:=by kernel_rfl
 i173:=by kernel_rfl
 i212:=by kernel_rfl
 i232:=by kernel_rfl
 i233:=by kernel_rfl
 m17:=by kernel_rfl
 m18:=by kernel_rfl
 m19:=by kernel_rfl }
open Go.RowKit Go.Sort Go.Lib in
theorem Tryz.strconv_FormatInt_10 (n : Int) (h0 : -9223372036854775808 ≤ n) (h1 : n ≤ 9223372036854775807) (w : World) (htab : Lib.TabIs Tryz.prog w "internal/strconv.uint64pow10" .u64 Lib.pow10Tab) :
 Calls Tryz.prog 301 #[.int .i64 n,.int .i64 10] w fun e w'=>e=.returned (.string ⟨(Lib.itoa n).toArray⟩)∧∃k os,w'=grow (w.drewN k) os:=Any.strconv_FormatInt_10 Tryz.laysM173 n h0 h1 w htab
def Tryz.lays138_ren:Go.Shelf.Ren:=⟨fun | 138=>274 | 195=>294 | 218=>296 | 143=>275 | 219=>297 | 217=>322 | 225=>323 | 224=>324 | 267=>325 | 266=>339 | 314=>340 | n=>n,fun | 9=>9 | 3=>3 | 4=>4 | 5=>5 | 0=>0 | 46=>201 | 146=>280 | 51=>265 | n=>n,fun | 1=>0 | n=>n⟩
theorem Tryz.lays138:Go.Proofs.Lays.n138 Tryz.prog Tryz.lays138_ren:={
 mixed:=by kernel_rfl
 f138:=Tryz.func274.trans (congrArg some (by kernel_rfl))
 f143:=Tryz.func275.trans (congrArg some (by kernel_rfl))
 f195:=Tryz.func294.trans (congrArg some (by kernel_rfl))
 f217:=Tryz.func322.trans (congrArg some (by kernel_rfl))
 f218:=Tryz.func296.trans (congrArg some (by kernel_rfl))
 f219:=Tryz.func297.trans (congrArg some (by kernel_rfl))
 f224:=Tryz.func324.trans (congrArg some (by kernel_rfl))
 f225:=Tryz.func323.trans (congrArg some (by kernel_rfl))
 f266:=Tryz.func339.trans (congrArg some (by kernel_rfl))
 f267:=Tryz.func325.trans (congrArg some (by kernel_rfl))
 f314:=Tryz.func340.trans (congrArg some (by kernel_rfl))
 t0:=Tryz.underlying0
 a0:=Tryz.isAgg0
 z0:=Tryz.sizeOf0
 v0:=Tryz.zeroValue0
 t3:=Tryz.underlying3
 a3:=Tryz.isAgg3
 z3:=Tryz.sizeOf3
 v3:=Tryz.zeroValue3
 t4:=Tryz.underlying4
 a4:=Tryz.isAgg4
 z4:=Tryz.sizeOf4
 v4:=Tryz.zeroValue4
 t5:=Tryz.underlying5
 a5:=Tryz.isAgg5
 z5:=Tryz.sizeOf5
 v5:=Tryz.zeroValue5
 t9:=Tryz.underlying9
 a9:=Tryz.isAgg9
 z9:=Tryz.sizeOf9
 v9:=Tryz.zeroValue9
 t46:=Tryz.underlying201
 a46:=Tryz.isAgg201
 z46:=Tryz.sizeOf201
 v46:=Tryz.zeroValue201
 t51:=Tryz.underlying265
 a51:=Tryz.isAgg265
 z51:=Tryz.sizeOf265
 v51:=Tryz.zeroValue265
 t146:=Tryz.underlying280
 a146:=Tryz.isAgg280
 z146:=Tryz.sizeOf280
 v146:=Tryz.zeroValue280
 g1:=by kernel_rfl }
open Go.RowKit Go.Lib in
theorem Tryz.strings_Count_one (s:ByteArray) (c:UInt8) (w:World) :
 Calls Tryz.prog 274 #[.string s,.string ⟨#[c]⟩] w fun e w'=>e=.returned (.int .i64 (Lib.countByte s.data.toList c))∧w'=w:=Any.strings_Count_one Tryz.lays138 s c w
open Go.RowKit Go.Lib in
theorem Tryz.strings_TrimLeft_set (s cutset:ByteArray) (w:World) (hcs:cutset.size<4294967281) (hascii:∀(j:Nat) b,cutset.data.toList[j]?=some b→b.toNat<128) :
 Calls Tryz.prog 279 #[.string s,.string cutset] w fun e w'=>e=.returned (.string ⟨(Lib.trimLeftS s.data.toList cutset.data.toList).toArray⟩)∧Below w.heap.size w w' :=
 Any.strings_TrimLeft_laid Tryz.lays161 (by kernel_rfl) s cutset w hcs hascii
end Go.Proofs
set_option maxHeartbeats 1000000
namespace Go.Proofs.YtgmaamnofhmecaaGreatDoor
open Go.RowKit
set_option maxRecDepth 100000 in
theorem zKT (l:List UInt8):Lib.trimLeftS l [48,49,50,51,52,53,54,55,56,57]=l.dropWhile isD:=by
 unfold Lib.trimLeftS
 congr 1
 funext c
 have h:∀n:Fin 256,([48,49,50,51,52,53,54,55,56,57]:List UInt8).contains (UInt8.ofNat n.val)=isD (UInt8.ofNat n.val):=by decide
 have:=h ⟨c.toNat,c.toNat_lt⟩
 rwa [UInt8.ofNat_toNat]at this
set_option maxRecDepth 100000 in
theorem zKJ (l:List UInt8):Lib.trimLeftS l [43,45]=l.dropWhile zAb:=by
 unfold Lib.trimLeftS
 congr 1
 funext c
 have h:∀n:Fin 256,([43,45]:List UInt8).contains (UInt8.ofNat n.val)=zAb (UInt8.ofNat n.val):=by decide
 have:=h ⟨c.toNat,c.toNat_lt⟩
 rwa [UInt8.ofNat_toNat]at this
theorem zI0 (p:UInt8→Bool) (l:List UInt8):(l.takeWhile p).length+(l.dropWhile p).length=l.length:=by
 rw[←List.length_append,List.takeWhile_append_dropWhile]
theorem zBI (s:ByteArray) (w:World) (hs:s.size≤1048576) :
 Calls Tryz.prog 280 #[.string s] w fun e w'=>e=.returned (.int .i64 (s.data.toList.takeWhile isD).length)∧Below w.heap.size w w':=by
 have HL:=Lib.hid (zI0 isD s.data.toList);have HS:=Lib.hid (Lib.size_eq s);have HK:=Lib.hid (fun W=>Tryz.strings_TrimLeft_set s ⟨#[48,49,50,51,52,53,54,55,56,57]⟩ W (by decide) (ascii_of_all (by decide)));go_enter Tryz.func280,Tryz.ntmps280;go_wp2_with fail;refine(HK.out _).mono ?_;rintro e w' ⟨rfl,hB⟩;rw[zKT];have hz:(ByteArray.mk (s.data.toList.dropWhile isD).toArray).size=(s.data.toList.dropWhile isD).length:=by simp[ByteArray.size]
 generalize s.data.toList.dropWhile isD=D at *;go_wp2_with fail;go_ret;refine⟨xB ?_,hB⟩;have h1:=HL.out;have h2:=HS.out;rw[IntWalk.wrap64_in _ ⟨by omega,by omega⟩];omega
set_option maxRecDepth 100000 in
theorem zDl (s:ByteArray) (n0:Nat) (w:World) (hs:s.size≤2097152) (hn0:n0≤999999999999999999) (hd:∀c∈s.data.toList,isD c=true) :
 Calls Tryz.prog 282 #[.int .i64 n0,.string s] w fun e w'=>e=.returned (.int .i64 (wF s.data.toList n0))∧Below w.heap.size w w':=by
 have hconv:=run_bytes_of_string (P:=Tryz.prog) w 9 22 5 s Tryz.underlying9 Tryz.underlying22 Tryz.underlying5;have HC:Hid (∀j (h:j<s.size),(bytesRow s (grownCap w s.size 0 5))[j]?=some (.int .u8 (s[j].toNat:Int))):=fun j h=>bytesRow_at s _ j h;generalize grownCap w s.size 0 5=cap at *;generalize bytesRow s cap=C at *;have HD:=Lib.hid hd;have HB:Hid (Below w.heap.size w (w.alloc (.cells C 5 (C.size,C.size+1))).drew):=by unfold Hid;exact(Below.new w _).drew
 clear hd;go_enter Tryz.func282,Tryz.ntmps282;go_wp2_with fail
 go_loop [0,10] (fun n i=>∃(k m:Nat),k≤s.size∧m≤999999999999999999∧n=.int .i64 m∧i=.int .i64 k∧Hid (wF s.data.toList n0=wF (s.data.toList.drop k) m)) (fun _ i=>s.size-(intOf i).toNat)
 case atStart=>exact⟨0,n0,Nat.zero_le _,hn0,rfl,rfl,rfl⟩
 case round =>
  obtain⟨k,m,hk,hm,rfl,rfl,hS⟩:=hrel;clear hconv;by_cases hlt:k<s.size
  · have HR:=Lib.hid (wK s k hlt);have hcell:(w.alloc (.cells C 5 (C.size,C.size+1))).cell? ⟨w.heap.size,k,none⟩=some (.int .u8 (s[k].toNat:Int)):=by rw[World.cell?_alloc_mark];exact HC.out k hlt
    have hdk:isD s[k]=true:=HD.out _ (by have:s.data.toList[k]'(by rw[←Lib.size_eq];exact hlt)=s[k]:=rfl;rw[←this];exact List.getElem_mem _);have hge:48≤s[k].toNat:=by simp[isD]at hdk;exact hdk.1
    have hle:s[k].toNat≤57:=by simp[isD]at hdk;exact hdk.2
    have hdv:dV s[k]+48=s[k].toNat:=by unfold dV;omega
    obtain⟨d,hdd⟩:∃d:Nat,d=dV s[k]:=⟨_,rfl⟩;rw[←hdd]at hdv;have HE:Hid (wF s.data.toList n0=if (999999999999999999-d) / 10<m then 999999999999999999 else wF (s.data.toList.drop (k+1)) (10*m+d)):=by unfold Hid;rw[hS.out,HR.out,hdd];rfl
    rw[←hdv]at hcell;have hd9:d≤9:=by omega
    clear hdk hge hle hdd hdv hS;go_wp2_with fail
    · go_ret;have hc:(999999999999999999-(d:Int)) / 10<m:=by assumption
      exact⟨xB (by rw[HE.out,if_pos (by omega)];rfl),HB.out⟩
    · have hc:(m:Int)≤(999999999999999999-d) / 10:=by assumption
      refine⟨⟨k+1,10*m+d,by omega,by omega,by go_num,by go_num,?_⟩,by simp[intOf];omega⟩;unfold Hid;rw[HE.out,if_neg (by omega)]
  · have HE:Hid (wF s.data.toList n0=m):=by unfold Hid;rw[hS.out,wU s k (by omega)];rfl
    go_wp2_with fail;go_ret;exact⟨xB (by rw[HE.out]),HB.out⟩
end Go.Proofs.YtgmaamnofhmecaaGreatDoor
