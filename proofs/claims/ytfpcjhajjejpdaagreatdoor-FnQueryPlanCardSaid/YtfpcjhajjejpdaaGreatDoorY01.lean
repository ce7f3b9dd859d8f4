import Derived.Test.YtfpcjhajjejpdaaGreatDoorProg
import Derived.Test.YtfpcjhajjejpdaaGreatDoorY00
import Derived.Ground.GgwProg
import Derived.Ground.Names2Prog
import Derived.Ground.SlgnProg
import Derived.Shelf.GgClosure.StringsIndexFunc
import Derived.Shelf.GgClosure.StringsIndexFuncTop
import Derived.Shelf.LaysM
import Derived.Shelf.Slices.Cells
import Derived.Shelf.Slices.Clone
import Derived.Shelf.Slices.CompactS
import Derived.Shelf.Slices.Empties2
import Derived.Shelf.Slices.Equal
import Derived.Shelf.SlicesE.Clone
import Derived.Shelf.SlicesG.SearchI
import Derived.Shelf.Small.Bits
import Derived.Shelf.Small.Strs
import Derived.Shelf.Small.Utf8
import Derived.Shelf.Small.Wraps
import Derived.Shelf.Strconv.Itoa0
import Derived.Shelf.Strconv.Itoa1
import Derived.Shelf.Strconv.Itoa2
import Derived.Shelf.Strconv.Itoa3
import Derived.Shelf.Strconv.Itoa4
import Derived.Shelf.Strings.AsciiSet
import Derived.Shelf.Strings.Builder1
import Derived.Shelf.Strings.Builder2
import Derived.Shelf.Strings.Count
import Derived.Shelf.Strings.Explode
import Derived.Shelf.Strings.FuncGrows
import Derived.Shelf.Strings.Prefix
import Derived.Shelf.Strings.Replace
import Derived.Shelf.Strings.RuneCount
import Derived.Shelf.Strings.Runes
import Derived.Shelf.Strings.Search1
import Derived.Shelf.Strings.Search2
import Derived.Shelf.Strings.Search3
import Derived.Shelf.Strings.Shaped
import Derived.Shelf.Strings.SlTrimAscii
import Derived.Shelf.Strings.Split
import Derived.Shelf.Strings.SplitShaped
import Derived.Shelf.Strings.Trim
import Derived.Shelf.Unicode.Decode
import Derived.Shelf.Unicode.DecodeAny
import Derived.Shelf.Unicode.DecodeLast
import Derived.Shelf.Unicode.DecodeSlow
import Derived.Shelf.Utf8.RuneCount
import Derived.Deep.CutBlock
import Derived.Deep.DeepCutAuto
namespace Go.Proofs
open Go.Shelf
def Tryz.lays161_ren:Go.Shelf.Ren:=⟨fun | 161=>205 | 231=>232 | 227=>233 | 233=>234 | 235=>235 | 228=>254 | 197=>248 | 151=>255 | 260=>275 | 152=>281 | 137=>294 | 119=>295 | 224=>273 | 225=>272 | 217=>271 | 266=>287 | n=>n,fun | 9=>9 | 4=>4 | 3=>3 | 5=>5 | 117=>209 | 116=>208 | 0=>0 | 124=>212 | 105=>219 | 21=>21 | 119=>251 | 46=>180 | 139=>254 | 138=>253 | n=>n,fun | 3=>1 | 4=>2 | n=>n⟩
theorem Tryz.lays161:Go.Proofs.Lays.n161 Tryz.prog Tryz.lays161_ren:={
 mixed:=by kernel_rfl
 f119:=Tryz.func295.trans (congrArg some (by kernel_rfl))
 f137:=Tryz.func294.trans (congrArg some (by kernel_rfl))
 f151:=Tryz.func255.trans (congrArg some (by kernel_rfl))
 f152:=Tryz.func281.trans (congrArg some (by kernel_rfl))
 f161:=Tryz.func205.trans (congrArg some (by kernel_rfl))
 f197:=Tryz.func248.trans (congrArg some (by kernel_rfl))
 f217:=Tryz.func271.trans (congrArg some (by kernel_rfl))
 f224:=Tryz.func273.trans (congrArg some (by kernel_rfl))
 f225:=Tryz.func272.trans (congrArg some (by kernel_rfl))
 f227:=Tryz.func233.trans (congrArg some (by kernel_rfl))
 f228:=Tryz.func254.trans (congrArg some (by kernel_rfl))
 f231:=Tryz.func232.trans (congrArg some (by kernel_rfl))
 f233:=Tryz.func234.trans (congrArg some (by kernel_rfl))
 f235:=Tryz.func235.trans (congrArg some (by kernel_rfl))
 f260:=Tryz.func275.trans (congrArg some (by kernel_rfl))
 f266:=Tryz.func287.trans (congrArg some (by kernel_rfl))
 t0:=Tryz.underlying0
 a0:=Tryz.isAgg0
 z0:=Tryz.sizeOf0
 v0:=Tryz.zeroValue0
 t3:=Tryz.underlying3
 a3:=Tryz.isAgg3
 z3:=Tryz.sizeOf3
 v3:=Tryz.zeroValue3
 t4:=Tryz.underlying4
 a4:=Tryz.isAgg4
 z4:=Tryz.sizeOf4
 v4:=Tryz.zeroValue4
 t5:=Tryz.underlying5
 a5:=Tryz.isAgg5
 z5:=Tryz.sizeOf5
 v5:=Tryz.zeroValue5
 t9:=Tryz.underlying9
 a9:=Tryz.isAgg9
 z9:=Tryz.sizeOf9
 v9:=Tryz.zeroValue9
 t21:=Tryz.underlying21
 a21:=Tryz.isAgg21
 z21:=Tryz.sizeOf21
 v21:=Tryz.zeroValue21
 t46:=Tryz.underlying180
 a46:=Tryz.isAgg180
 z46:=Tryz.sizeOf180
 v46:=Tryz.zeroValue180
 t105:=Tryz.underlying219
 a105:=Tryz.isAgg219
 z105:=Tryz.sizeOf219
 v105:=Tryz.zeroValue219
 t116:=Tryz.underlying208
 a116:=Tryz.isAgg208
 z116:=Tryz.sizeOf208
 t117:=Tryz.underlying209
 a117:=Tryz.isAgg209
 z117:=Tryz.sizeOf209
 v117:=Tryz.zeroValue209
 t119:=Tryz.underlying251
 a119:=Tryz.isAgg251
 z119:=Tryz.sizeOf251
 t124:=Tryz.underlying212
 a124:=Tryz.isAgg212
 z124:=Tryz.sizeOf212
 v124:=Tryz.zeroValue212
 t138:=Tryz.underlying253
 a138:=Tryz.isAgg253
 z138:=Tryz.sizeOf253
 v138:=Tryz.zeroValue253
 t139:=Tryz.underlying254
 a139:=Tryz.isAgg254
 z139:=Tryz.sizeOf254
 v139:=Tryz.zeroValue254
 g3:=by kernel_rfl
 g4:=by kernel_rfl }
open Go.RowKit in
def Tryz.lays162_ren:Go.Shelf.Ren:=⟨fun | 162=>231 | 232=>251 | 227=>233 | 234=>252 | 236=>253 | 228=>254 | 271=>280 | 151=>255 | 120=>293 | 197=>248 | 152=>281 | 260=>275 | 137=>294 | 119=>295 | 224=>273 | 225=>272 | 217=>271 | 266=>287 | n=>n,fun | 9=>9 | 4=>4 | 3=>3 | 5=>5 | 117=>209 | 116=>208 | 0=>0 | 124=>212 | 21=>21 | 105=>219 | 46=>180 | 119=>251 | 139=>254 | 138=>253 | n=>n,fun | 3=>1 | 4=>2 | n=>n⟩
theorem Tryz.lays162:Go.Proofs.Lays.n162 Tryz.prog Tryz.lays162_ren:={
 mixed:=by kernel_rfl
 f119:=Tryz.func295.trans (congrArg some (by kernel_rfl))
 f120:=Tryz.func293.trans (congrArg some (by kernel_rfl))
 f137:=Tryz.func294.trans (congrArg some (by kernel_rfl))
 f151:=Tryz.func255.trans (congrArg some (by kernel_rfl))
 f152:=Tryz.func281.trans (congrArg some (by kernel_rfl))
 f162:=Tryz.func231.trans (congrArg some (by kernel_rfl))
 f197:=Tryz.func248.trans (congrArg some (by kernel_rfl))
 f217:=Tryz.func271.trans (congrArg some (by kernel_rfl))
 f224:=Tryz.func273.trans (congrArg some (by kernel_rfl))
 f225:=Tryz.func272.trans (congrArg some (by kernel_rfl))
 f227:=Tryz.func233.trans (congrArg some (by kernel_rfl))
 f228:=Tryz.func254.trans (congrArg some (by kernel_rfl))
 f232:=Tryz.func251.trans (congrArg some (by kernel_rfl))
 f234:=Tryz.func252.trans (congrArg some (by kernel_rfl))
 f236:=Tryz.func253.trans (congrArg some (by kernel_rfl))
 f260:=Tryz.func275.trans (congrArg some (by kernel_rfl))
 f266:=Tryz.func287.trans (congrArg some (by kernel_rfl))
 f271:=Tryz.func280.trans (congrArg some (by kernel_rfl))
 t0:=Tryz.underlying0
 a0:=Tryz.isAgg0
 z0:=Tryz.sizeOf0
 v0:=Tryz.zeroValue0
 t3:=Tryz.underlying3
 a3:=Tryz.isAgg3
 z3:=Tryz.sizeOf3
 v3:=Tryz.zeroValue3
 t4:=Tryz.underlying4
 a4:=Tryz.isAgg4
 z4:=Tryz.sizeOf4
 v4:=Tryz.zeroValue4
 t5:=Tryz.underlying5
 a5:=Tryz.isAgg5
 z5:=Tryz.sizeOf5
 v5:=Tryz.zeroValue5
 t9:=Tryz.underlying9
 a9:=Tryz.isAgg9
 z9:=Tryz.sizeOf9
 v9:=Tryz.zeroValue9
 t21:=Tryz.underlying21
 a21:=Tryz.isAgg21
 z21:=Tryz.sizeOf21
 v21:=Tryz.zeroValue21
 t46:=Tryz.underlying180
 a46:=Tryz.isAgg180
 z46:=Tryz.sizeOf180
 v46:=Tryz.zeroValue180
 t105:=Tryz.underlying219
 a105:=Tryz.isAgg219
 z105:=Tryz.sizeOf219
 v105:=Tryz.zeroValue219
 t116:=Tryz.underlying208
 a116:=Tryz.isAgg208
 z116:=Tryz.sizeOf208
 t117:=Tryz.underlying209
 a117:=Tryz.isAgg209
 z117:=Tryz.sizeOf209
 v117:=Tryz.zeroValue209
 t119:=Tryz.underlying251
 a119:=Tryz.isAgg251
 z119:=Tryz.sizeOf251
 t124:=Tryz.underlying212
 a124:=Tryz.isAgg212
 z124:=Tryz.sizeOf212
 v124:=Tryz.zeroValue212
 t138:=Tryz.underlying253
 a138:=Tryz.isAgg253
 z138:=Tryz.sizeOf253
 v138:=Tryz.zeroValue253
 t139:=Tryz.underlying254
 a139:=Tryz.isAgg254
 z139:=Tryz.sizeOf254
 v139:=Tryz.zeroValue254
 g3:=by kernel_rfl
 g4:=by kernel_rfl }
open Go.RowKit in
theorem Tryz.strings_TrimRight_one (s:ByteArray) (c:UInt8) (hc:c.toNat<128) (w:World) (hs:s.size≤9223372036854775807) :
 Calls Tryz.prog 231 #[.string s,.string ⟨#[c]⟩] w fun e w'=>e=.returned (.string ⟨(Lib.trimRightB s.data.toList c).toArray⟩)∧w'=w:=Any.strings_TrimRight_one Tryz.lays162 s c hc w hs
def Tryz.lays103_ren:Go.Shelf.Ren:=⟨fun | 103=>208 | 210=>238 | 206=>256 | n=>n,fun | 9=>9 | 4=>4 | 24=>190 | 3=>3 | n=>n,fun | n=>n⟩
theorem Tryz.lays103:Go.Proofs.Lays.n103 Tryz.prog Tryz.lays103_ren:={
 mixed:=by kernel_rfl
 f103:=Tryz.func208.trans (congrArg some (by kernel_rfl))
 f206:=Tryz.func256.trans (congrArg some (by kernel_rfl))
 f210:=Tryz.func238.trans (congrArg some (by kernel_rfl))
 t3:=Tryz.underlying3
 a3:=Tryz.isAgg3
 z3:=Tryz.sizeOf3
 v3:=Tryz.zeroValue3
 t4:=Tryz.underlying4
 a4:=Tryz.isAgg4
 z4:=Tryz.sizeOf4
 v4:=Tryz.zeroValue4
 t9:=Tryz.underlying9
 a9:=Tryz.isAgg9
 z9:=Tryz.sizeOf9
 v9:=Tryz.zeroValue9
 t24:=Tryz.underlying190
 a24:=Tryz.isAgg190
 z24:=Tryz.sizeOf190
 v24:=Tryz.zeroValue190 }
open Go.RowKit in
theorem Tryz.strings_CutPrefix (s p:ByteArray) (w:World) :
 Calls Tryz.prog 208 #[.string s,.string p] w fun e w'=>e=.returned (.tuple #[.string ⟨(Lib.trimPrefix s.data.toList p.data.toList).toArray⟩,.bool (Lib.hasPrefix s.data.toList p.data.toList)])∧w'=w:=Any.strings_CutPrefix Tryz.lays103 s p w
def Tryz.laysM173_ren:Go.Shelf.Ren:=⟨fun | 173=>230 | 246=>250 | 283=>276 | 284=>277 | 285=>278 | 286=>279 | 129=>267 | 317=>289 | 318=>290 | 319=>291 | 320=>292 | 337=>297 | 338=>298 | n=>n,fun | 2=>2 | 3=>3 | 9=>9 | 4=>4 | 171=>238 | 0=>0 | 53=>115 | 37=>22 | 5=>5 | 173=>240 | 212=>256 | 51=>230 | 20=>20 | 213=>257 | 46=>180 | 232=>262 | 233=>263 | n=>n,fun | 17=>3 | 18=>4 | 19=>5 | n=>n⟩
theorem Tryz.laysM173:Go.Proofs.LaysM.n173 Tryz.prog Tryz.laysM173_ren:={
 mixed:=by kernel_rfl
 f129:=Tryz.func267.trans (congrArg some (by kernel_rfl))
 f173:=Tryz.func230.trans (congrArg some (by kernel_rfl))
 f246:=Tryz.func250.trans (congrArg some (by kernel_rfl))
 f283:=Tryz.func276.trans (congrArg some (by kernel_rfl))
 f284:=Tryz.func277.trans (congrArg some (by kernel_rfl))
 f285:=Tryz.func278.trans (congrArg some (by kernel_rfl))
 f286:=Tryz.func279.trans (congrArg some (by kernel_rfl))
 f317:=Tryz.func289.trans (congrArg some (by kernel_rfl))
 f318:=Tryz.func290.trans (congrArg some (by kernel_rfl))
 f319:=Tryz.func291.trans (congrArg some (by kernel_rfl))
 f320:=Tryz.func292.trans (congrArg some (by kernel_rfl))
 f337:=Tryz.func297.trans (congrArg some (by kernel_rfl))
 f338:=Tryz.func298.trans (congrArg some (by kernel_rfl))
 t0:=Tryz.underlying0
 a0:=Tryz.isAgg0
 z0:=Tryz.sizeOf0
 v0:=Tryz.zeroValue0
 t2:=Tryz.underlying2
 a2:=Tryz.isAgg2
 z2:=Tryz.sizeOf2
 v2:=Tryz.zeroValue2
 t3:=Tryz.underlying3
 a3:=Tryz.isAgg3
 z3:=Tryz.sizeOf3
 v3:=Tryz.zeroValue3
 t4:=Tryz.underlying4
 a4:=Tryz.isAgg4
 z4:=Tryz.sizeOf4
 v4:=Tryz.zeroValue4
 t5:=Tryz.underlying5
 a5:=Tryz.isAgg5
 z5:=Tryz.sizeOf5
 v5:=Tryz.zeroValue5
 t9:=Tryz.underlying9
 a9:=Tryz.isAgg9
 z9:=Tryz.sizeOf9
 v9:=Tryz.zeroValue9
 t20:=Tryz.underlying20
 a20:=Tryz.isAgg20
 z20:=Tryz.sizeOf20
 v20:=Tryz.zeroValue20
 t37:=Tryz.underlying22
 a37:=Tryz.isAgg22
 z37:=Tryz.sizeOf22
 v37:=Tryz.zeroValue22
 t46:=Tryz.underlying180
 a46:=Tryz.isAgg180
 z46:=Tryz.sizeOf180
 v46:=Tryz.zeroValue180
 t51:=Tryz.underlying230
 a51:=Tryz.isAgg230
 z51:=Tryz.sizeOf230
 v51:=Tryz.zeroValue230
 t53:=Tryz.underlying115
 a53:=Tryz.isAgg115
 z53:=Tryz.sizeOf115
 v53:=Tryz.zeroValue115
 t171:=Tryz.underlying238
 a171:=Tryz.isAgg238
 z171:=Tryz.sizeOf238
 v171:=Tryz.zeroValue238
 t173:=Tryz.underlying240
 a173:=Tryz.isAgg240
 z173:=Tryz.sizeOf240
 v173:=Tryz.zeroValue240
 t212:=Tryz.underlying256
 a212:=Tryz.isAgg256
 z212:=Tryz.sizeOf256
 v212:=Tryz.zeroValue256
 t213:=Tryz.underlying257
 a213:=Tryz.isAgg257
 z213:=Tryz.sizeOf257
 t232:=Tryz.underlying262
 a232:=Tryz.isAgg262
 z232:=Tryz.sizeOf262
 v232:=Tryz.zeroValue262
 t233:=Tryz.underlying263
 a233:=Tryz.isAgg263
 z233:=Tryz.sizeOf263
 v233:=Tryz.zeroValue263
 g17:=by kernel_rfl
 g18:=by kernel_rfl
 g19:=by kernel_rfl
 i0:=by kernel_rfl
 i2:=by kernel_rfl
 i3:=by kernel_rfl
 i4:=by kernel_rfl
 i5:=by kernel_rfl
 i9:=by kernel_rfl
 i20:=by kernel_rfl
 i37:=by kernel_rfl
 i46:=by kernel_rfl
 i51:=by kernel_rfl
 i53:=by kernel_rfl
 i171:=by kernel_rfl
 i173:=by kernel_rfl
 i212:=by kernel_rfl
 i232:=by kernel_rfl
 i233:=by kernel_rfl
 m17:=by kernel_rfl
 m18:=by kernel_rfl
 m19:=by kernel_rfl }
open Go.RowKit Go.Sort Go.Lib in
theorem Tryz.strconv_FormatInt_10 (n : Int) (h0 : -9223372036854775808 ≤ n) (h1 : n ≤ 9223372036854775807) (w : World) (htab : Lib.TabIs Tryz.prog w "internal/strconv.uint64pow10" .u64 Lib.pow10Tab) :
 Calls Tryz.prog 230 #[.int .i64 n,.int .i64 10] w fun e w'=>e=.returned (.string ⟨(Lib.itoa n).toArray⟩)∧∃k os,w'=grow (w.drewN k) os:=Any.strconv_FormatInt_10 Tryz.laysM173 n h0 h1 w htab
def Tryz.lays138_ren:Go.Shelf.Ren:=⟨fun | 138=>206 | 195=>236 | 218=>237 | 143=>226 | 219=>247 | 217=>271 | 225=>272 | 224=>273 | 267=>274 | 266=>287 | 314=>288 | n=>n,fun | 9=>9 | 3=>3 | 4=>4 | 5=>5 | 0=>0 | 46=>180 | 146=>249 | 51=>230 | n=>n,fun | 1=>0 | n=>n⟩
theorem Tryz.lays138:Go.Proofs.Lays.n138 Tryz.prog Tryz.lays138_ren:={
 mixed:=by kernel_rfl
 f138:=Tryz.func206.trans (congrArg some (by kernel_rfl))
 f143:=Tryz.func226.trans (congrArg some (by kernel_rfl))
 f195:=Tryz.func236.trans (congrArg some (by kernel_rfl))
 f217:=Tryz.func271.trans (congrArg some (by kernel_rfl))
 f218:=Tryz.func237.trans (congrArg some (by kernel_rfl))
 f219:=Tryz.func247.trans (congrArg some (by kernel_rfl))
 f224:=Tryz.func273.trans (congrArg some (by kernel_rfl))
 f225:=Tryz.func272.trans (congrArg some (by kernel_rfl))
 f266:=Tryz.func287.trans (congrArg some (by kernel_rfl))
 f267:=Tryz.func274.trans (congrArg some (by kernel_rfl))
 f314:=Tryz.func288.trans (congrArg some (by kernel_rfl))
 t0:=Tryz.underlying0
 a0:=Tryz.isAgg0
 z0:=Tryz.sizeOf0
 v0:=Tryz.zeroValue0
 t3:=Tryz.underlying3
 a3:=Tryz.isAgg3
 z3:=Tryz.sizeOf3
 v3:=Tryz.zeroValue3
 t4:=Tryz.underlying4
 a4:=Tryz.isAgg4
 z4:=Tryz.sizeOf4
 v4:=Tryz.zeroValue4
 t5:=Tryz.underlying5
 a5:=Tryz.isAgg5
 z5:=Tryz.sizeOf5
 v5:=Tryz.zeroValue5
 t9:=Tryz.underlying9
 a9:=Tryz.isAgg9
 z9:=Tryz.sizeOf9
 v9:=Tryz.zeroValue9
 t46:=Tryz.underlying180
 a46:=Tryz.isAgg180
 z46:=Tryz.sizeOf180
 v46:=Tryz.zeroValue180
 t51:=Tryz.underlying230
 a51:=Tryz.isAgg230
 z51:=Tryz.sizeOf230
 v51:=Tryz.zeroValue230
 t146:=Tryz.underlying249
 a146:=Tryz.isAgg249
 z146:=Tryz.sizeOf249
 v146:=Tryz.zeroValue249
 g1:=by kernel_rfl }
open Go.RowKit Go.Lib in
theorem Tryz.strings_Count_one (s:ByteArray) (c:UInt8) (w:World) :
 Calls Tryz.prog 206 #[.string s,.string ⟨#[c]⟩] w fun e w'=>e=.returned (.int .i64 (Lib.countByte s.data.toList c))∧w'=w:=Any.strings_Count_one Tryz.lays138 s c w
open Go.RowKit in
theorem Tryz.strings_TrimLeft_set (s cutset:ByteArray) (w:World) (hcs:cutset.size<4294967281) (hascii:∀(j:Nat) b,cutset.data.toList[j]?=some b→b.toNat<128) :
 Calls Tryz.prog 205 #[.string s,.string cutset] w fun e w'=>e=.returned (.string ⟨(Lib.trimLeftS s.data.toList cutset.data.toList).toArray⟩)∧Below w.heap.size w w' :=
 Any.strings_TrimLeft_laid Tryz.lays161 (by kernel_rfl) s cutset w hcs hascii
end Go.Proofs
set_option maxHeartbeats 2000000
namespace Go.Proofs.YtfpcjhajjejpdaaGreatDoor
def isD (c:UInt8):Bool:=decide (48≤c.toNat)&&decide (c.toNat≤57)
def zBw (c:UInt8):Bool:=decide (c=43)||decide (c=45)
def dV (c:UInt8):Nat:=c.toNat-48
def xI:Nat:=999999999999999999
def zAM:List UInt8→Bool→Bool × List UInt8
 | [],m=>(m,[])
 | c::r,m=>if zBw c=true then zAM r (m != decide (c=45)) else (m,c::r)
def zCK:List UInt8→Nat→Nat × List UInt8
 | [],n=>(n,[])
 | c::r,n=>if isD c=true then zCK r (min (10*n+dV c) 1000000000000) else (n,c::r)
def zDa:List UInt8→Nat→Nat→Nat
 | [],_,n=>n
 | c::r,u,n=>if isD c=true then zDa r (u / 10) (n+dV c*u) else n
def wX:List UInt8→Option (List UInt8)
 | []=>none
 | c::r=>if c=46 then some r else none
def zBM:Option (List UInt8)→Nat→Nat
 | some t,n=>zDa t 100000 n
 | none,n=>n
def zAo (l:List UInt8):Nat:=min (zBM (wX (zCK l 0).2) (min ((zCK l 0).1*1000000) 1000000000000000000)) xI
def xT (l:List UInt8):Int:=if (zAM l false).1=true then -(zAo (zAM l false).2:Int) else zAo (zAM l false).2
def uK:List UInt8→Nat→Nat
 | [],n=>n
 | c::r,n=>if (xI-dV c) / 10<n then xI else uK r (10*n+dV c)
def zAB (r:List UInt8):List UInt8:=match wX (r.dropWhile isD) with
 | some t=>t.takeWhile isD
 | none=>[]
def zLL (r:List UInt8):Nat:=uK (r.takeWhile isD++(zAB r++List.replicate 6 48).take 6) 0
def zJy (l:List UInt8):Int:=if (l.takeWhile zBw).count 45 % 2=1 then -(zLL (l.dropWhile zBw):Int) else zLL (l.dropWhile zBw)
theorem zHH:∀(l:List UInt8) (m:Bool),zAM l m=((m != decide ((l.takeWhile zBw).count 45 % 2=1)),l.dropWhile zBw)
 | [],m=>by simp[zAM]
 | c::r,m=>by
   unfold zAM;by_cases h:zBw c=true
   · rw[if_pos h,zHH r,List.takeWhile_cons_of_pos h,List.dropWhile_cons_of_pos h];refine Prod.ext ?_ rfl;by_cases hc:c=45
     · subst hc;rw[List.count_cons_self];cases m <;> by_cases h2:(r.takeWhile zBw).count 45 % 2=1 <;> simp[h2] <;> omega
     · rw[List.count_cons_of_ne hc];simp[hc]
   · rw[if_neg h,List.takeWhile_cons_of_neg h,List.dropWhile_cons_of_neg h];simp
def yT (l:List UInt8) (n:Nat):Nat:=l.foldl (fun n c=>10*n+dV c) n
theorem zEs:∀(l:List UInt8) (n:Nat),n≤yT l n
 | [],n=>Nat.le_refl _
 | c::r,n=>by have:=zEs r (10*n+dV c);show n≤yT r (10*n+dV c);omega
theorem zKI:∀(l:List UInt8) (n:Nat),n≤1000000000000→zCK l n=(min (yT (l.takeWhile isD) n) 1000000000000,l.dropWhile isD)
 | [],n,h=>by simp[zCK,yT];omega
 | c::r,n,h=>by
   unfold zCK;by_cases hd:isD c=true
   · rw[if_pos hd,zKI r _ (by omega),List.takeWhile_cons_of_pos hd,List.dropWhile_cons_of_pos hd];refine Prod.ext ?_ rfl;show min (yT (r.takeWhile isD) (min (10*n+dV c) 1000000000000)) 1000000000000=min (yT (r.takeWhile isD) (10*n+dV c)) 1000000000000;by_cases hc:10*n+dV c≤1000000000000
     · rw[Nat.min_eq_left hc]
     · rw[Nat.min_eq_right (show 1000000000000≤10*n+dV c by omega)];have h1:=zEs (r.takeWhile isD) 1000000000000;have h2:=zEs (r.takeWhile isD) (10*n+dV c);omega
   · rw[if_neg hd,List.takeWhile_cons_of_neg hd,List.dropWhile_cons_of_neg hd];refine Prod.ext ?_ rfl;show n=min (yT [] n) 1000000000000;simp[yT];omega
def fv:Nat→List UInt8→Nat
 | 0,_=>0
 | _+1,[]=>0
 | k+1,c::r=>if isD c=true then dV c*10 ^ k+fv k r else 0
def zDt:Nat→Nat
 | 0=>0
 | k+1=>10 ^ k
theorem zLR:∀k,zDt k / 10=zDt (k-1)
 | 0=>rfl
 | 1=>rfl
 | k+2=>by show 10 ^ (k+1) / 10=10 ^ k;rw[Nat.pow_succ];omega
theorem zIy:∀(t:List UInt8) (k n:Nat),zDa t (zDt k) n=n+fv k t
 | [],0,n=>rfl
 | [],k+1,n=>rfl
 | c::r,k,n=>by
   unfold zDa;by_cases hd:isD c=true
   · rw[if_pos hd,zLR,zIy r]
     cases k with
     | zero=>simp[zDt,fv]
     | succ k=>simp only[fv,if_pos hd,zDt,Nat.add_sub_cancel];omega
   · rw[if_neg hd]
     cases k with
     | zero=>simp[fv]
     | succ k=>simp[fv,hd]
theorem zIC (c:UInt8) (h:isD c=true):dV c≤9:=by
 simp[isD]at h;unfold dV;omega
theorem zNw:∀(k:Nat) (t:List UInt8),fv k t<10 ^ k
 | 0,_=>by simp[fv]
 | k+1,[]=>by simp[fv];exact Nat.pow_pos (by omega)
 | k+1,c::r=>by
   unfold fv;split
   · rename_i hd;have h1:=zNw k r;have h2:=zIC c hd;have h3:dV c*10 ^ k≤9*10 ^ k:=Nat.mul_le_mul_right _ h2;rw[Nat.pow_succ];omega
   · exact Nat.pow_pos (by omega)
theorem zBi:∀(k a:Nat),yT (List.replicate k 48) a=a*10 ^ k
 | 0,a=>by simp[yT]
 | k+1,a=>by show yT (List.replicate k 48) (10*a+dV 48)=_;rw[zBi k,Nat.pow_succ];have:dV 48=0:=rfl;rw[this,Nat.add_zero,Nat.mul_comm 10 a,Nat.mul_assoc,Nat.mul_comm 10]
theorem zDs:∀(k:Nat) (t:List UInt8) (a:Nat),yT ((t.takeWhile isD++List.replicate k 48).take k) a=a*10 ^ k+fv k t
 | 0,t,a=>by simp[yT,fv]
 | k+1,[],a=>by rw[List.takeWhile_nil,List.nil_append,List.take_of_length_le (by simp),zBi];simp[fv]
 | k+1,c::r,a=>by
   by_cases hd:isD c=true
   · rw[List.takeWhile_cons_of_pos hd];show yT ((r.takeWhile isD++List.replicate (k+1) 48).take k) (10*a+dV c)=_;have e:(r.takeWhile isD++List.replicate (k+1) 48).take k=(r.takeWhile isD++List.replicate k 48).take k:=by rw[List.replicate_succ',←List.append_assoc,List.take_append_of_le_length (by simp)]
     rw[e,zDs k r];simp only[fv,if_pos hd,Nat.pow_succ];rw[Nat.add_mul,Nat.mul_comm 10 a,Nat.mul_assoc,Nat.mul_comm 10];omega
   · rw[List.takeWhile_cons_of_neg hd,List.nil_append,List.take_of_length_le (by simp),zBi];simp[fv,hd]
theorem zEH:∀(l:List UInt8) (n:Nat),(∀c∈l,dV c≤9)→n≤xI→uK l n=min (yT l n) xI
 | [],n,_,h=>by simp[uK,yT];omega
 | c::r,n,hl,h=>by
   have hc:=hl c List.mem_cons_self;unfold uK;have hm:xI=999999999999999999:=rfl;split
   · rename_i h1;have h2:xI<10*n+dV c:=by omega
     have h3:=zEs r (10*n+dV c);show xI=min (yT r (10*n+dV c)) xI;omega
   · exact zEH r _ (fun x hx=>hl x (List.mem_cons_of_mem _ hx)) (by omega)
theorem zU0 {p:UInt8→Bool}:∀(l:List UInt8) (c:UInt8),c∈l.takeWhile p→p c=true
 | [],c,h=>by simp at h
 | x::r,c,h=>by
   by_cases hx:p x=true
   · rw[List.takeWhile_cons_of_pos hx]at h;rcases List.mem_cons.1 h with rfl | h
     · exact hx
     · exact zU0 r c h
   · rw[List.takeWhile_cons_of_neg hx]at h;cases h
theorem zHm (r:List UInt8):zLL r=zAo r:=by
 unfold zLL zAo;rw[zKI r 0 (by omega)];have hm:xI=999999999999999999:=rfl
 have hall:∀c∈r.takeWhile isD++(zAB r++List.replicate 6 48).take 6,dV c≤9:=by
  intro c hc;rcases List.mem_append.1 hc with h | h
  · exact zIC c (zU0 _ _ h)
  · rcases List.mem_append.1 (List.mem_of_mem_take h) with h | h
    · unfold zAB at h;split at h
      · exact zIC c (zU0 _ _ h)
      · cases h
    · rw[List.eq_of_mem_replicate h];decide
 rw[zEH _ _ hall (by omega)]
 have hv:yT (r.takeWhile isD++(zAB r++List.replicate 6 48).take 6) 0=yT (r.takeWhile isD) 0*10 ^ 6+(match wX (r.dropWhile isD) with | some t=>fv 6 t | none=>0):=by
  show List.foldl _ 0 _=_;rw[List.foldl_append];show yT _ (yT _ 0)=_;unfold zAB
  cases wX (r.dropWhile isD) with
  | some t=>exact zDs 6 t _
  | none=>have:=zDs 6 [] (yT (r.takeWhile isD) 0);simpa [fv] using this
 rw[hv];simp only
 cases wX (r.dropWhile isD) with
 | some t=>have h1:=zIy t 6 (min (min (yT (r.takeWhile isD) 0) 1000000000000*1000000) 1000000000000000000);have h2:zDt 6=100000:=rfl;rw[h2]at h1;simp only[zBM,h1];have h3:=zNw 6 t;omega
 | none=>simp only[zBM];omega
theorem zKz (l:List UInt8):zJy l=xT l:=by
 unfold zJy xT;rw[zHH];simp only[zHm];by_cases h:(l.takeWhile zBw).count 45 % 2=1 <;> simp[h]
theorem zBC (l:List UInt8):zAo l≤xI:=by unfold zAo;exact Nat.min_le_right _ _
theorem zMT (l:List UInt8):-(xI:Int)≤xT l∧xT l≤xI:=by
 have:=zBC (zAM l false).2;unfold xT;split <;> omega
end Go.Proofs.YtfpcjhajjejpdaaGreatDoor
namespace Go.Proofs.YtfpcjhajjejpdaaGreatDoor
open Go.RowKit
theorem zBv (c:UInt8) (w:World) :
 Calls Tryz.prog 182 #[.int .u8 c.toNat] w fun e w'=>e=.returned (.bool (isD c))∧w=w':=by
 unfold isD;generalize c.toNat=n;by_cases h1:48≤n
 · by_cases h2:n≤57
   all_goals
    go_enter Tryz.func182,Tryz.ntmps182
    go_wp2
    go_ret;exact⟨zA0 (by first | (simp;done) | (simp;omega) | (rw[Bool.eq_iff_iff];simp;omega)),rfl⟩
 · go_enter Tryz.func182,Tryz.ntmps182
   go_wp2
   go_ret;exact⟨zA0 (by first | (simp;done) | (simp;omega) | (rw[Bool.eq_iff_iff];simp;omega)),rfl⟩
theorem vY (a b:Int) (w:World) :
 Calls Tryz.prog 183 #[.int .i64 a,.int .i64 b] w fun e w'=>e=.returned (.int .i64 (min a b))∧w=w':=by
 by_cases h:a<b
 · go_enter Tryz.func183,Tryz.ntmps183
   go_wp2
   go_ret;exact⟨zC0 (by omega),rfl⟩
 · go_enter Tryz.func183,Tryz.ntmps183
   go_wp2
   go_ret;exact⟨zC0 (by omega),rfl⟩
theorem zDk (c:UInt8) (n:Nat) (hn:n<256):((c.toNat:Int)==(n:Int))=decide (c=UInt8.ofNat n):=by
 rw[Bool.eq_iff_iff,beq_iff_eq,decide_eq_true_iff];constructor
 · intro h;apply UInt8.toNat_inj.1;rw[UInt8.toNat_ofNat',Nat.mod_eq_of_lt hn];omega
 · rintro rfl;rw[UInt8.toNat_ofNat',Nat.mod_eq_of_lt hn]
theorem yN (s:ByteArray) (k:Nat) (hk:k<s.size):s.data.toList.drop k=s[k]::s.data.toList.drop (k+1) :=
 List.drop_eq_getElem_cons (by rw[←Lib.size_eq];exact hk)
theorem yX (s:ByteArray) (k:Nat) (hk:s.size≤k):s.data.toList.drop k=[]:=List.drop_of_length_le (by rw[←Lib.size_eq];exact hk)
set_option maxRecDepth 100000 in
theorem zDB (s:ByteArray) (w:World) (hs:s.size≤1048576) :
 Calls Tryz.prog 129 #[.string s] w fun e w'=>e=.returned (.int .i64 (xT s.data.toList))∧w=w':=by
 go_enter Tryz.func129,Tryz.ntmps129
 go_upto_block 0 with (fail)
 go_cut [3,4] (fun i m wx=>w=wx∧∃(k:Nat) (b:Bool),k≤s.size∧i=.int .i64 k∧m=.bool b∧Hid (zAM s.data.toList false=(b,s.data.toList.drop k)))
 case first =>
  go_wp2_with fail
  go_loop [3,4] (fun i m=>∃(k:Nat) (b:Bool),k≤s.size∧i=.int .i64 k∧m=.bool b∧Hid (zAM s.data.toList false=zAM (s.data.toList.drop k) b)) (fun i _=>s.size-(intOf i).toNat)
  case atStart=>exact⟨0,false,Nat.zero_le _,rfl,rfl,rfl⟩
  case round =>
   obtain⟨k,b,hk,rfl,rfl,hS⟩:=hrel;by_cases hlt:k<s.size
   · have HD:=Lib.hid (yN s k hlt);by_cases c1:s[k]=43
     · have hb1:((s[k].toNat:Int)==43)=true:=by rw[c1];rfl
       have hb2:((s[k].toNat:Int)==45)=false:=by rw[c1];rfl
       have HC:=Lib.hid c1;clear c1;go_wp2_with fail
       go_round
       case rel=>exact⟨k+1,b,by omega,by go_num,by cases b <;> rfl,by unfold Hid;rw[hS.out,HD.out,HC.out];cases b <;> rfl⟩
       case measure=>simp[intOf];omega
     · by_cases c2:s[k]=45
       · have hb1:((s[k].toNat:Int)==43)=false:=by rw[c2];rfl
         have hb2:((s[k].toNat:Int)==45)=true:=by rw[c2];rfl
         have HC:=Lib.hid c2;clear c1 c2;go_wp2_with fail
         go_round
         case rel=>exact⟨k+1,!b,by omega,by go_num,by cases b <;> rfl,by unfold Hid;rw[hS.out,HD.out,HC.out];cases b <;> rfl⟩
         case measure=>simp[intOf];omega
       · have hb1:((s[k].toNat:Int)==43)=false:=by have:=zDk s[k] 43 (by omega);rw[decide_eq_false (by exact c1)]at this;exact this
         have hb2:((s[k].toNat:Int)==45)=false:=by have:=zDk s[k] 45 (by omega);rw[decide_eq_false (by exact c2)]at this;exact this
         have HE:Hid (zAM s.data.toList false=(b,s.data.toList.drop k)):=by unfold Hid;rw[hS.out,HD.out];unfold zAM;rw[if_neg (by simp[zBw,c1,c2])]
         clear c1 c2;go_wp2_with fail
         go_meet
         exact⟨rfl,k,b,hk,rfl,rfl,HE.out⟩
   · have HE:Hid (zAM s.data.toList false=(b,s.data.toList.drop k)):=by unfold Hid;rw[hS.out,yX s k (by omega)];rfl
     go_wp2_with fail
     go_meet
     exact⟨rfl,k,b,hk,rfl,rfl,HE.out⟩
 case rest =>
  obtain⟨rfl,k,b,hk,rfl,rfl,hK⟩:=hcut;have HN:Hid (xT s.data.toList=if b=true then -(zAo (s.data.toList.drop k):Int) else zAo (s.data.toList.drop k)):=by unfold Hid xT;rw[hK.out]
  clear hK
  go_upto_block 2 with (fail)
  go_cut [3,5] (fun i n wx=>w=wx∧∃(j m:Nat),j≤s.size∧m≤1000000000000∧i=.int .i64 j∧n=.int .i64 m∧Hid (zCK (s.data.toList.drop k) 0=(m,s.data.toList.drop j)))
  case first =>
   go_wp2_with fail
   go_loop [3,5] (fun i n=>∃(j m:Nat),j≤s.size∧m≤1000000000000∧i=.int .i64 j∧n=.int .i64 m∧Hid (zCK (s.data.toList.drop k) 0=zCK (s.data.toList.drop j) m)) (fun i _=>s.size-(intOf i).toNat)
   case atStart=>exact⟨k,0,hk,by omega,rfl,rfl,rfl⟩
   case round =>
    obtain⟨j,m,hj,hm,rfl,rfl,hS⟩:=hrel;by_cases hlt:j<s.size
    · have HD:=Lib.hid (yN s j hlt);have HK:=Lib.hid (zBv s[j]);cases hd:isD s[j]
      · have HE:Hid (zCK (s.data.toList.drop k) 0=(m,s.data.toList.drop j)):=by unfold Hid;rw[hS.out,HD.out];unfold zCK;rw[if_neg (by rw[hd];simp)]
        rw[hd]at HK;clear hd;go_wp2_with fail;refine(HK.out _).mono ?_;rintro e w' ⟨rfl,rfl⟩;go_wp2_with fail
        go_meet
        exact⟨rfl,j,m,hj,hm,rfl,rfl,HE.out⟩
      · have hd9:=zIC s[j] hd;have hge:48≤s[j].toNat:=by simp[isD]at hd;exact hd.1
        have hle:s[j].toNat≤57:=by simp[isD]at hd;exact hd.2
        have HE:Hid (zCK (s.data.toList.drop k) 0=zCK (s.data.toList.drop (j+1)) (min (10*m+dV s[j]) 1000000000000)):=by
         unfold Hid;rw[hS.out,HD.out]
         conv=>lhs;unfold zCK
         rw[if_pos hd]
        have hdv:(dV s[j]:Int)=(s[j].toNat:Int)-48:=by unfold dV;omega
        rw[hd]at HK;have HV:=Lib.hid hdv;clear hd hdv;go_wp2_with fail;refine(HK.out _).mono ?_;rintro e w' ⟨rfl,rfl⟩;go_wp2_with fail;refine(vY _ _ _).mono ?_;rintro e w' ⟨rfl,rfl⟩;go_wp2_with fail
        go_round
        case rel=>exact⟨j+1,min (10*m+dV s[j]) 1000000000000,by omega,by omega,by go_num,by have:=HV.out;congr 1;omega,HE.out⟩
        case measure=>simp[intOf];omega
    · have HE:Hid (zCK (s.data.toList.drop k) 0=(m,s.data.toList.drop j)):=by unfold Hid;rw[hS.out,yX s j (by omega)];rfl
      go_wp2_with fail
      go_meet
      exact⟨rfl,j,m,hj,hm,rfl,rfl,HE.out⟩
  case rest =>
   obtain⟨rfl,j,m,hj,hm,rfl,rfl,hD⟩:=hcut;have HA:Hid (zAo (s.data.toList.drop k)=min (zBM (wX (s.data.toList.drop j)) (min (m*1000000) 1000000000000000000)) xI):=by unfold Hid zAo;rw[hD.out]
   clear hD;go_wp2_with fail;refine(vY _ _ _).mono ?_;rintro e w' ⟨rfl,rfl⟩;obtain⟨N,hN⟩:∃N:Nat,N=min (m*1000000) 1000000000000000000:=⟨_,rfl⟩;have hN2:min ((m:Int)*1000000) 1000000000000000000=(N:Int):=by omega
   have hN3:N≤1000000000000000000:=by omega
   rw[hN2];rw[←hN]at HA;clear hN hN2;by_cases hlt:j<s.size
   · have HD:=Lib.hid (yN s j hlt);by_cases c1:s[j]=46
     · have hb1:((s[j].toNat:Int)==46)=true:=by rw[c1];rfl
       have HF:Hid (zAo (s.data.toList.drop k)=min (zDa (s.data.toList.drop (j+1)) 100000 N) xI):=by unfold Hid;rw[HA.out,HD.out,c1];rfl
       clear c1;go_wp2_with fail
       go_loop [3,5,6] (fun i n u=>∃(p q v:Nat),p≤s.size∧i=.int .i64 p∧n=.int .i64 q∧u=.int .i64 v∧v≤100000∧q+10*v≤1000000000001000000∧Hid (zAo (s.data.toList.drop k)=min (zDa (s.data.toList.drop p) v q) xI)) (fun i _ _=>s.size-(intOf i).toNat)
       case atStart=>exact⟨j+1,N,100000,by omega,by go_num,rfl,rfl,by omega,by omega,HF.out⟩
       case round =>
        obtain⟨p,q,v,hp,rfl,rfl,rfl,hv,hq,hS⟩:=hrel;by_cases hlt2:p<s.size
        · have HD2:=Lib.hid (yN s p hlt2);have HK:=Lib.hid (zBv s[p]);cases hd:isD s[p]
          · have HE:Hid (zAo (s.data.toList.drop k)=min q xI):=by unfold Hid;rw[hS.out,HD2.out];unfold zDa;rw[if_neg (by rw[hd];simp)]
            rw[hd]at HK;clear hd;go_wp2_with fail;refine(HK.out _).mono ?_;rintro e w' ⟨rfl,rfl⟩;go_wp2_with fail;have HM:Hid (min (q:Int) 999999999999999999=(zAo (s.data.toList.drop k):Int)):=by unfold Hid;rw[HE.out];unfold xI;omega
            refine(vY _ _ _).mono ?_;rintro e w' ⟨rfl,rfl⟩;rw[HM.out];have hle:=zBC (s.data.toList.drop k);unfold xI at hle;generalize zAo (s.data.toList.drop k)=R at *;cases b
            all_goals
             go_wp2_with fail;go_ret;exact⟨zC0 (by rw[HN.out];simp),rfl⟩
          · have hd9:=zIC s[p] hd;have hge:48≤s[p].toNat:=by simp[isD]at hd;exact hd.1
            have hle:s[p].toNat≤57:=by simp[isD]at hd;exact hd.2
            have HE:Hid (zAo (s.data.toList.drop k)=min (zDa (s.data.toList.drop (p+1)) (v / 10) (q+dV s[p]*v)) xI):=by
             unfold Hid;rw[hS.out,HD2.out]
             conv=>lhs;unfold zDa
             rw[if_pos hd]
            have hdv:(dV s[p]:Int)=(s[p].toNat:Int)-48:=by unfold dV;omega
            have hmul:dV s[p]*v≤9*v:=Nat.mul_le_mul_right _ hd9;obtain⟨dd,hdd⟩:∃dd:Nat,(s[p].toNat:Int)-48=dd:=⟨dV s[p],hdv.symm⟩;have hdd2:dV s[p]=dd:=by omega
            rw[hd]at HK;rw[hdd2]at HE hmul hd9;have HX:=Lib.hid hdd;obtain⟨x,hx⟩:∃x:Nat,dd*v=x:=⟨_,rfl⟩;rw[hx]at HE hmul;have HX2:=Lib.hid hx;clear hd hdv hdd hdd2 hx;go_wp2_with fail;refine(HK.out _).mono ?_;rintro e w' ⟨rfl,rfl⟩;go_wp2_with fail
            go_round
            case rel =>
             refine⟨p+1,q+x,v / 10,by omega,by go_num,?_,by go_num,by omega,by omega,HE.out⟩;have e1:(dd:Int)*(v:Int)=(x:Int):=by rw[←HX2.out];simp
             rw[HX.out,e1,IntWalk.wrap64_in (x:Int) ⟨by omega,by omega⟩,IntWalk.wrap64_in ((q:Int)+(x:Int)) ⟨by omega,by omega⟩]
             congr 1
            case measure=>simp[intOf];omega
        · have HE:Hid (zAo (s.data.toList.drop k)=min q xI):=by unfold Hid;rw[hS.out,yX s p (by omega)];rfl
          go_wp2_with fail;have HM:Hid (min (q:Int) 999999999999999999=(zAo (s.data.toList.drop k):Int)):=by unfold Hid;rw[HE.out];unfold xI;omega
          refine(vY _ _ _).mono ?_;rintro e w' ⟨rfl,rfl⟩;rw[HM.out];have hle:=zBC (s.data.toList.drop k);unfold xI at hle;generalize zAo (s.data.toList.drop k)=R at *;cases b
          all_goals
           go_wp2_with fail;go_ret;exact⟨zC0 (by rw[HN.out];simp),rfl⟩
     · have hb1:((s[j].toNat:Int)==46)=false:=by have:=zDk s[j] 46 (by omega);rw[decide_eq_false (by exact c1)]at this;exact this
       have HE:Hid (zAo (s.data.toList.drop k)=min N xI):=by unfold Hid;rw[HA.out,HD.out];simp only[wX,if_neg c1,zBM]
       clear c1;go_wp2_with fail;have HM:Hid (min (N:Int) 999999999999999999=(zAo (s.data.toList.drop k):Int)):=by unfold Hid;rw[HE.out];unfold xI;omega
       refine(vY _ _ _).mono ?_;rintro e w' ⟨rfl,rfl⟩;rw[HM.out];have hle:=zBC (s.data.toList.drop k);unfold xI at hle;generalize zAo (s.data.toList.drop k)=R at *;cases b
       all_goals
        go_wp2_with fail;go_ret;exact⟨zC0 (by rw[HN.out];simp),rfl⟩
   · have HE:Hid (zAo (s.data.toList.drop k)=min N xI):=by unfold Hid;rw[HA.out,yX s j (by omega)];rfl
     go_wp2_with fail;have HM:Hid (min (N:Int) 999999999999999999=(zAo (s.data.toList.drop k):Int)):=by unfold Hid;rw[HE.out];unfold xI;omega
     refine(vY _ _ _).mono ?_;rintro e w' ⟨rfl,rfl⟩;rw[HM.out];have hle:=zBC (s.data.toList.drop k);unfold xI at hle;generalize zAo (s.data.toList.drop k)=R at *;cases b
     all_goals
      go_wp2_with fail;go_ret;exact⟨zC0 (by rw[HN.out];simp),rfl⟩
end Go.Proofs.YtfpcjhajjejpdaaGreatDoor
