import Derived.Test.YtfpcjhajjejpdaaGreatDoorZ00
import Derived.Test.YtfpcjhajjejpdaaGreatDoorProg
import Derived.Ground.GgwProg
import Derived.Ground.Names2Prog
import Derived.Ground.SlgnProg
import Derived.Shelf.GgClosure.StringsIndexFunc
import Derived.Shelf.GgClosure.StringsIndexFuncTop
import Derived.Shelf.LaysM
import Derived.Shelf.Slices.Cells
import Derived.Shelf.Slices.Clone
import Derived.Shelf.Slices.CompactS
import Derived.Shelf.Slices.Empties2
import Derived.Shelf.Slices.Equal
import Derived.Shelf.SlicesE.Clone
import Derived.Shelf.SlicesG.SearchI
import Derived.Shelf.Small.Bits
import Derived.Shelf.Small.Strs
import Derived.Shelf.Small.Utf8
import Derived.Shelf.Small.Wraps
import Derived.Shelf.Strconv.Itoa0
import Derived.Shelf.Strconv.Itoa1
import Derived.Shelf.Strconv.Itoa2
import Derived.Shelf.Strconv.Itoa3
import Derived.Shelf.Strconv.Itoa4
import Derived.Shelf.Strings.AsciiSet
import Derived.Shelf.Strings.Builder1
import Derived.Shelf.Strings.Builder2
import Derived.Shelf.Strings.Count
import Derived.Shelf.Strings.Explode
import Derived.Shelf.Strings.FuncGrows
import Derived.Shelf.Strings.Prefix
import Derived.Shelf.Strings.Replace
import Derived.Shelf.Strings.RuneCount
import Derived.Shelf.Strings.Runes
import Derived.Shelf.Strings.Search1
import Derived.Shelf.Strings.Search2
import Derived.Shelf.Strings.Search3
import Derived.Shelf.Strings.Shaped
import Derived.Shelf.Strings.SlTrimAscii
import Derived.Shelf.Strings.Split
import Derived.Shelf.Strings.SplitShaped
import Derived.Shelf.Strings.Trim
import Derived.Shelf.Unicode.Decode
import Derived.Shelf.Unicode.DecodeAny
import Derived.Shelf.Unicode.DecodeLast
import Derived.Shelf.Unicode.DecodeSlow
import Derived.Shelf.Utf8.RuneCount
namespace Go.Proofs.YtfpcjhajjejpdaaGreatDoor
open Go.RowKit _root_.Go.Proofs.YtfpcjhajjejpdaaGreatDoor.Own
set_option linter.unusedVariables false
theorem zCH (w:World) (a b c d:Obj):((((w.alloc a).alloc b).alloc c).alloc d).heap[w.heap.size+1+1+1]?=some d:=zD0 (by simp)
theorem zCI (w:World) (a b c d:Obj):((((w.alloc a).alloc b).alloc c).alloc d).heap[w.heap.size+1+1]?=some c:=(Below.heap_alloc _ d _ (by simp)).trans (zI0 w a b c)
theorem zCJ (w:World) (a b c d:Obj):((((w.alloc a).alloc b).alloc c).alloc d).heap[w.heap.size+1]?=some b:=(Below.heap_alloc _ d _ (by simp)).trans (uI w a b c)
theorem zCK (w:World) (a b c d:Obj):((((w.alloc a).alloc b).alloc c).alloc d).heap[w.heap.size]?=some a:=(Below.heap_alloc _ d _ (by simp;omega)).trans (zK0 w a b c)
theorem zBO (w:World) (a b c d:Obj):Below w.heap.size w ((((w.alloc a).alloc b).alloc c).alloc d):=(((Below.new w a).later (Below.new _ b)).later (Below.new _ c)).later (Below.new _ d)
theorem wJ (w:World) (a b c:Obj):Below w.heap.size w (((w.alloc a).alloc b).alloc c):=((Below.new w a).later (Below.new _ b)).later (Below.new _ c)
def zGv:Kind NodeD:=⟨3,fun d v=>[.string d.name,v,.string d.val],fun d=>d.subs,fun _ _=>rfl,by decide⟩
theorem zAv:(Tryz.prog.info? 83).map (fun i=>(i.zero,i.size,i.bytes))=some (some (.agg #[.string .empty,.slice none 0 0,.string .empty]),3,56):=by kernel_rfl
theorem OwnL.Nodes {w:World} {base t:Nat} {v:Value} {fs:List NodeD} {vs:List Value} (h:OwnL zGv w base t v fs vs):∃A cap,v=.slice A fs.length cap∧fs.length≤cap∧Nodes w w.heap.size A fs.length fs:=by
 obtain⟨A,cap,rfl,hc,_,hA⟩:=own_slice h.row;refine⟨A,cap,rfl,hc,rfl,fun hn=>?_⟩;obtain⟨g,rfl,hg,_⟩:=hA hn;refine⟨g,0,rfl,hg,fun j hj=>?_⟩;have h0:=h.cellAt rfl j 0 hj (by decide);have h1:=h.cellAt rfl j 1 hj (by decide);have h2:=h.cellAt rfl j 2 hj (by decide);obtain⟨A1,cap1,e1,hc1,hs1⟩:=(h.subs j hj).strs;refine⟨_,_,_,by rw[Nat.zero_add];exact h0,by rw[Nat.zero_add];exact h1,by rw[Nat.zero_add];exact h2,rfl,⟨A1,_,cap1,e1,hs1,hc1⟩,rfl⟩
end Go.Proofs.YtfpcjhajjejpdaaGreatDoor
namespace Go.Proofs
open Go.Shelf
def Tryz.lays161_ren:Go.Shelf.Ren:=⟨fun | 161=>205 | 231=>232 | 227=>233 | 233=>234 | 235=>235 | 228=>254 | 197=>248 | 151=>255 | 260=>275 | 152=>281 | 137=>294 | 119=>295 | 224=>273 | 225=>272 | 217=>271 | 266=>287 | n=>n,fun | 9=>9 | 4=>4 | 3=>3 | 5=>5 | 117=>209 | 116=>208 | 0=>0 | 124=>212 | 105=>219 | 21=>21 | 119=>251 | 46=>180 | 139=>254 | 138=>253 | n=>n,fun | 3=>1 | 4=>2 | n=>n⟩
theorem Tryz.lays161:Go.Proofs.Lays.n161 Tryz.prog Tryz.lays161_ren:={
 mixed:=by kernel_rfl
 f119:=Tryz.func295.trans (congrArg some (by kernel_rfl))
 f137:=Tryz.func294.trans (congrArg some (by kernel_rfl))
 f151:=Tryz.func255.trans (congrArg some (by kernel_rfl))
 f152:=Tryz.func281.trans (congrArg some (by kernel_rfl))
 f161:=Tryz.func205.trans (congrArg some (by kernel_rfl))
 f197:=Tryz.func248.trans (congrArg some (by kernel_rfl))
 f217:=Tryz.func271.trans (congrArg some (by kernel_rfl))
 f224:=Tryz.func273.trans (congrArg some (by kernel_rfl))
 f225:=Tryz.func272.trans (congrArg some (by kernel_rfl))
 f227:=Tryz.func233.trans (congrArg some (by kernel_rfl))
 f228:=Tryz.func254.trans (congrArg some (by kernel_rfl))
 f231:=Tryz.func232.trans (congrArg some (by kernel_rfl))
 f233:=Tryz.func234.trans (congrArg some (by kernel_rfl))
 f235:=Tryz.func235.trans (congrArg some (by kernel_rfl))
 f260:=Tryz.func275.trans (congrArg some (by kernel_rfl))
 f266:=Tryz.func287.trans (congrArg some (by kernel_rfl))
 t0:=Tryz.underlying0
 a0:=Tryz.isAgg0
 z0:=Tryz.sizeOf0
 v0:=Tryz.zeroValue0
 t3:=Tryz.underlying3
 a3:=Tryz.isAgg3
 z3:=Tryz.sizeOf3
 v3:=Tryz.zeroValue3
 t4:=Tryz.underlying4
 a4:=Tryz.isAgg4
 z4:=Tryz.sizeOf4
 v4:=Tryz.zeroValue4
 t5:=Tryz.underlying5
 a5:=Tryz.isAgg5
 z5:=Tryz.sizeOf5
 v5:=Tryz.zeroValue5
 t9:=Tryz.underlying9
 a9:=Tryz.isAgg9
 z9:=Tryz.sizeOf9
 v9:=Tryz.zeroValue9
 t21:=Tryz.underlying21
 a21:=Tryz.isAgg21
 z21:=Tryz.sizeOf21
 v21:=Tryz.zeroValue21
 t46:=Tryz.underlying180
 a46:=Tryz.isAgg180
 z46:=Tryz.sizeOf180
 v46:=Tryz.zeroValue180
 t105:=Tryz.underlying219
 a105:=Tryz.isAgg219
 z105:=Tryz.sizeOf219
 v105:=Tryz.zeroValue219
 t116:=Tryz.underlying208
 a116:=Tryz.isAgg208
 z116:=Tryz.sizeOf208
 t117:=Tryz.underlying209
 a117:=Tryz.isAgg209
 z117:=Tryz.sizeOf209
 v117:=Tryz.zeroValue209
 t119:=Tryz.underlying251
 a119:=Tryz.isAgg251
 z119:=Tryz.sizeOf251
 t124:=Tryz.underlying212
 a124:=Tryz.isAgg212
 z124:=Tryz.sizeOf212
 v124:=Tryz.zeroValue212
 t138:=Tryz.underlying253
 a138:=Tryz.isAgg253
 z138:=Tryz.sizeOf253
 v138:=Tryz.zeroValue253
 t139:=Tryz.underlying254
 a139:=Tryz.isAgg254
 z139:=Tryz.sizeOf254
 v139:=Tryz.zeroValue254
 g3:=by kernel_rfl
 g4:=by kernel_rfl }
open Go.RowKit in
def Tryz.lays162_ren:Go.Shelf.Ren:=⟨fun | 162=>231 | 232=>251 | 227=>233 | 234=>252 | 236=>253 | 228=>254 | 271=>280 | 151=>255 | 120=>293 | 197=>248 | 152=>281 | 260=>275 | 137=>294 | 119=>295 | 224=>273 | 225=>272 | 217=>271 | 266=>287 | n=>n,fun | 9=>9 | 4=>4 | 3=>3 | 5=>5 | 117=>209 | 116=>208 | 0=>0 | 124=>212 | 21=>21 | 105=>219 | 46=>180 | 119=>251 | 139=>254 | 138=>253 | n=>n,fun | 3=>1 | 4=>2 | n=>n⟩
theorem Tryz.lays162:Go.Proofs.Lays.n162 Tryz.prog Tryz.lays162_ren:={
 mixed:=by kernel_rfl
 f119:=Tryz.func295.trans (congrArg some (by kernel_rfl))
 f120:=Tryz.func293.trans (congrArg some (by kernel_rfl))
 f137:=Tryz.func294.trans (congrArg some (by kernel_rfl))
 f151:=Tryz.func255.trans (congrArg some (by kernel_rfl))
 f152:=Tryz.func281.trans (congrArg some (by kernel_rfl))
 f162:=Tryz.func231.trans (congrArg some (by kernel_rfl))
 f197:=Tryz.func248.trans (congrArg some (by kernel_rfl))
 f217:=Tryz.func271.trans (congrArg some (by kernel_rfl))
 f224:=Tryz.func273.trans (congrArg some (by kernel_rfl))
 f225:=Tryz.func272.trans (congrArg some (by kernel_rfl))
 f227:=Tryz.func233.trans (congrArg some (by kernel_rfl))
 f228:=Tryz.func254.trans (congrArg some (by kernel_rfl))
 f232:=Tryz.func251.trans (congrArg some (by kernel_rfl))
 f234:=Tryz.func252.trans (congrArg some (by kernel_rfl))
 f236:=Tryz.func253.trans (congrArg some (by kernel_rfl))
 f260:=Tryz.func275.trans (congrArg some (by kernel_rfl))
 f266:=Tryz.func287.trans (congrArg some (by kernel_rfl))
 f271:=Tryz.func280.trans (congrArg some (by kernel_rfl))
 t0:=Tryz.underlying0
 a0:=Tryz.isAgg0
 z0:=Tryz.sizeOf0
 v0:=Tryz.zeroValue0
 t3:=Tryz.underlying3
 a3:=Tryz.isAgg3
 z3:=Tryz.sizeOf3
 v3:=Tryz.zeroValue3
 t4:=Tryz.underlying4
 a4:=Tryz.isAgg4
 z4:=Tryz.sizeOf4
 v4:=Tryz.zeroValue4
 t5:=Tryz.underlying5
 a5:=Tryz.isAgg5
 z5:=Tryz.sizeOf5
 v5:=Tryz.zeroValue5
 t9:=Tryz.underlying9
 a9:=Tryz.isAgg9
 z9:=Tryz.sizeOf9
 v9:=Tryz.zeroValue9
 t21:=Tryz.underlying21
 a21:=Tryz.isAgg21
 z21:=Tryz.sizeOf21
 v21:=Tryz.zeroValue21
 t46:=Tryz.underlying180
 a46:=Tryz.isAgg180
 z46:=Tryz.sizeOf180
 v46:=Tryz.zeroValue180
 t105:=Tryz.underlying219
 a105:=Tryz.isAgg219
 z105:=Tryz.sizeOf219
 v105:=Tryz.zeroValue219
 t116:=Tryz.underlying208
 a116:=Tryz.isAgg208
 z116:=Tryz.sizeOf208
 t117:=Tryz.underlying209
 a117:=Tryz.isAgg209
 z117:=Tryz.sizeOf209
 v117:=Tryz.zeroValue209
 t119:=Tryz.underlying251
 a119:=Tryz.isAgg251
 z119:=Tryz.sizeOf251
 t124:=Tryz.underlying212
 a124:=Tryz.isAgg212
 z124:=Tryz.sizeOf212
 v124:=Tryz.zeroValue212
 t138:=Tryz.underlying253
 a138:=Tryz.isAgg253
 z138:=Tryz.sizeOf253
 v138:=Tryz.zeroValue253
 t139:=Tryz.underlying254
 a139:=Tryz.isAgg254
 z139:=Tryz.sizeOf254
 v139:=Tryz.zeroValue254
 g3:=by kernel_rfl
 g4:=by kernel_rfl }
open Go.RowKit in
theorem Tryz.strings_TrimRight_one (s:ByteArray) (c:UInt8) (hc:c.toNat<128) (w:World) (hs:s.size≤9223372036854775807) :
 Calls Tryz.prog 231 #[.string s,.string ⟨#[c]⟩] w fun e w'=>e=.returned (.string ⟨(Lib.trimRightB s.data.toList c).toArray⟩)∧w'=w:=Any.strings_TrimRight_one Tryz.lays162 s c hc w hs
def Tryz.lays103_ren:Go.Shelf.Ren:=⟨fun | 103=>208 | 210=>238 | 206=>256 | n=>n,fun | 9=>9 | 4=>4 | 24=>190 | 3=>3 | n=>n,fun | n=>n⟩
theorem Tryz.lays103:Go.Proofs.Lays.n103 Tryz.prog Tryz.lays103_ren:={
 mixed:=by kernel_rfl
 f103:=Tryz.func208.trans (congrArg some (by kernel_rfl))
 f206:=Tryz.func256.trans (congrArg some (by kernel_rfl))
 f210:=Tryz.func238.trans (congrArg some (by kernel_rfl))
 t3:=Tryz.underlying3
 a3:=Tryz.isAgg3
 z3:=Tryz.sizeOf3
 v3:=Tryz.zeroValue3
 t4:=Tryz.underlying4
 a4:=Tryz.isAgg4
 z4:=Tryz.sizeOf4
 v4:=Tryz.zeroValue4
 t9:=Tryz.underlying9
 a9:=Tryz.isAgg9
 z9:=Tryz.sizeOf9
 v9:=Tryz.zeroValue9
 t24:=Tryz.underlying190
 a24:=Tryz.isAgg190
 z24:=Tryz.sizeOf190
 v24:=Tryz.zeroValue190 }
open Go.RowKit in
theorem Tryz.strings_CutPrefix (s p:ByteArray) (w:World) :
 Calls Tryz.prog 208 #[.string s,.string p] w fun e w'=>e=.returned (.tuple #[.string ⟨(Lib.trimPrefix s.data.toList p.data.toList).toArray⟩,.bool (Lib.hasPrefix s.data.toList p.data.toList)])∧w'=w:=Any.strings_CutPrefix Tryz.lays103 s p w
def Tryz.laysM173_ren:Go.Shelf.Ren:=⟨fun | 173=>230 | 246=>250 | 283=>276 | 284=>277 | 285=>278 | 286=>279 | 129=>267 | 317=>289 | 318=>290 | 319=>291 | 320=>292 | 337=>297 | 338=>298 | n=>n,fun | 2=>2 | 3=>3 | 9=>9 | 4=>4 | 171=>238 | 0=>0 | 53=>115 | 37=>22 | 5=>5 | 173=>240 | 212=>256 | 51=>230 | 20=>20 | 213=>257 | 46=>180 | 232=>262 | 233=>263 | n=>n,fun | 17=>3 | 18=>4 | 19=>5 | n=>n⟩
theorem Tryz.laysM173:Go.Proofs.LaysM.n173 Tryz.prog Tryz.laysM173_ren:={
 mixed:=by kernel_rfl
 f129:=Tryz.func267.trans (congrArg some (by kernel_rfl))
 f173:=Tryz.func230.trans (congrArg some (by kernel_rfl))
 f246:=Tryz.func250.trans (congrArg some (by kernel_rfl))
 f283:=Tryz.func276.trans (congrArg some (by kernel_rfl))
 f284:=Tryz.func277.trans (congrArg some (by kernel_rfl))
 f285:=Tryz.func278.trans (congrArg some (by kernel_rfl))
 f286:=Tryz.func279.trans (congrArg some (by kernel_rfl))
 f317:=Tryz.func289.trans (congrArg some (by kernel_rfl))
 f318:=Tryz.func290.trans (congrArg some (by kernel_rfl))
 f319:=Tryz.func291.trans (congrArg some (by kernel_rfl))
 f320:=Tryz.func292.trans (congrArg some (by kernel_rfl))
 f337:=Tryz.func297.trans (congrArg some (by kernel_rfl))
 f338:=Tryz.func298.trans (congrArg some (by kernel_rfl))
 t0:=Tryz.underlying0
 a0:=Tryz.isAgg0
 z0:=Tryz.sizeOf0
 v0:=Tryz.zeroValue0
 t2:=Tryz.underlying2
 a2:=Tryz.isAgg2
 z2:=Tryz.sizeOf2
 v2:=Tryz.zeroValue2
 t3:=Tryz.underlying3
 a3:=Tryz.isAgg3
 z3:=Tryz.sizeOf3
 v3:=Tryz.zeroValue3
 t4:=Tryz.underlying4
 a4:=Tryz.isAgg4
 z4:=Tryz.sizeOf4
 v4:=Tryz.zeroValue4
 t5:=Tryz.underlying5
 a5:=Tryz.isAgg5
 z5:=Tryz.sizeOf5
 v5:=Tryz.zeroValue5
 t9:=Tryz.underlying9
 a9:=Tryz.isAgg9
 z9:=Tryz.sizeOf9
 v9:=Tryz.zeroValue9
 t20:=Tryz.underlying20
 a20:=Tryz.isAgg20
 z20:=Tryz.sizeOf20
 v20:=Tryz.zeroValue20
 t37:=Tryz.underlying22
 a37:=Tryz.isAgg22
 z37:=Tryz.sizeOf22
 v37:=Tryz.zeroValue22
 t46:=Tryz.underlying180
 a46:=Tryz.isAgg180
 z46:=Tryz.sizeOf180
 v46:=Tryz.zeroValue180
 t51:=Tryz.underlying230
 a51:=Tryz.isAgg230
 z51:=Tryz.sizeOf230
 v51:=Tryz.zeroValue230
 t53:=Tryz.underlying115
 a53:=Tryz.isAgg115
 z53:=Tryz.sizeOf115
 v53:=Tryz.zeroValue115
 t171:=Tryz.underlying238
 a171:=Tryz.isAgg238
 z171:=Tryz.sizeOf238
 v171:=Tryz.zeroValue238
 t173:=Tryz.underlying240
 a173:=Tryz.isAgg240
 z173:=Tryz.sizeOf240
 v173:=Tryz.zeroValue240
 t212:=Tryz.underlying256
 a212:=Tryz.isAgg256
 z212:=Tryz.sizeOf256
 v212:=Tryz.zeroValue256
 t213:=Tryz.underlying257
 a213:=Tryz.isAgg257
 z213:=Tryz.sizeOf257
 t232:=Tryz.underlying262
 a232:=Tryz.isAgg262
 z232:=Tryz.sizeOf262
 v232:=Tryz.zeroValue262
 t233:=Tryz.underlying263
 a233:=Tryz.isAgg263
 z233:=Tryz.sizeOf263
 v233:=Tryz.zeroValue263
 g17:=by kernel_rfl
 g18:=by kernel_rfl
 g19:=by kernel_rfl
 i0:=by kernel_rfl
 i2:=by kernel_rfl
 i3:=by kernel_rfl
 i4:=by kernel_rfl
 i5:=by kernel_rfl
 i9:=by kernel_rfl
 i20:=by kernel_rfl
 i37:=by kernel_rfl
 i46:=by kernel_rfl
 i51:=by kernel_rfl
 i53:=by kernel_rfl
 i171:=by kernel_rfl
 i173:=by kernel_rfl
 i212:=by kernel_rfl
 i232:=by kernel_rfl
 i233:=by kernel_rfl
 m17:=by kernel_rfl
 m18:=by kernel_rfl
 m19:=by kernel_rfl }
open Go.RowKit Go.Sort Go.Lib in
theorem Tryz.strconv_FormatInt_10 (n : Int) (h0 : -9223372036854775808 ≤ n) (h1 : n ≤ 9223372036854775807) (w : World) (htab : Lib.TabIs Tryz.prog w "internal/strconv.uint64pow10" .u64 Lib.pow10Tab) :
 Calls Tryz.prog 230 #[.int .i64 n,.int .i64 10] w fun e w'=>e=.returned (.string ⟨(Lib.itoa n).toArray⟩)∧∃k os,w'=grow (w.drewN k) os:=Any.strconv_FormatInt_10 Tryz.laysM173 n h0 h1 w htab
def Tryz.lays138_ren:Go.Shelf.Ren:=⟨fun | 138=>206 | 195=>236 | 218=>237 | 143=>226 | 219=>247 | 217=>271 | 225=>272 | 224=>273 | 267=>274 | 266=>287 | 314=>288 | n=>n,fun | 9=>9 | 3=>3 | 4=>4 | 5=>5 | 0=>0 | 46=>180 | 146=>249 | 51=>230 | n=>n,fun | 1=>0 | n=>n⟩
theorem Tryz.lays138:Go.Proofs.Lays.n138 Tryz.prog Tryz.lays138_ren:={
 mixed:=by kernel_rfl
 f138:=Tryz.func206.trans (congrArg some (by kernel_rfl))
 f143:=Tryz.func226.trans (congrArg some (by kernel_rfl))
 f195:=Tryz.func236.trans (congrArg some (by kernel_rfl))
 f217:=Tryz.func271.trans (congrArg some (by kernel_rfl))
 f218:=Tryz.func237.trans (congrArg some (by kernel_rfl))
 f219:=Tryz.func247.trans (congrArg some (by kernel_rfl))
 f224:=Tryz.func273.trans (congrArg some (by kernel_rfl))
 f225:=Tryz.func272.trans (congrArg some (by kernel_rfl))
 f266:=Tryz.func287.trans (congrArg some (by kernel_rfl))
 f267:=Tryz.func274.trans (congrArg some (by kernel_rfl))
 f314:=Tryz.func288.trans (congrArg some (by kernel_rfl))
 t0:=Tryz.underlying0
 a0:=Tryz.isAgg0
 z0:=Tryz.sizeOf0
 v0:=Tryz.zeroValue0
 t3:=Tryz.underlying3
 a3:=Tryz.isAgg3
 z3:=Tryz.sizeOf3
 v3:=Tryz.zeroValue3
 t4:=Tryz.underlying4
 a4:=Tryz.isAgg4
 z4:=Tryz.sizeOf4
 v4:=Tryz.zeroValue4
 t5:=Tryz.underlying5
 a5:=Tryz.isAgg5
 z5:=Tryz.sizeOf5
 v5:=Tryz.zeroValue5
 t9:=Tryz.underlying9
 a9:=Tryz.isAgg9
 z9:=Tryz.sizeOf9
 v9:=Tryz.zeroValue9
 t46:=Tryz.underlying180
 a46:=Tryz.isAgg180
 z46:=Tryz.sizeOf180
 v46:=Tryz.zeroValue180
 t51:=Tryz.underlying230
 a51:=Tryz.isAgg230
 z51:=Tryz.sizeOf230
 v51:=Tryz.zeroValue230
 t146:=Tryz.underlying249
 a146:=Tryz.isAgg249
 z146:=Tryz.sizeOf249
 v146:=Tryz.zeroValue249
 g1:=by kernel_rfl }
open Go.RowKit Go.Lib in
theorem Tryz.strings_Count_one (s:ByteArray) (c:UInt8) (w:World) :
 Calls Tryz.prog 206 #[.string s,.string ⟨#[c]⟩] w fun e w'=>e=.returned (.int .i64 (Lib.countByte s.data.toList c))∧w'=w:=Any.strings_Count_one Tryz.lays138 s c w
open Go.RowKit in
theorem Tryz.strings_TrimLeft_set (s cutset:ByteArray) (w:World) (hcs:cutset.size<4294967281) (hascii:∀(j:Nat) b,cutset.data.toList[j]?=some b→b.toNat<128) :
 Calls Tryz.prog 205 #[.string s,.string cutset] w fun e w'=>e=.returned (.string ⟨(Lib.trimLeftS s.data.toList cutset.data.toList).toArray⟩)∧Below w.heap.size w w' :=
 Any.strings_TrimLeft_laid Tryz.lays161 (by kernel_rfl) s cutset w hcs hascii
end Go.Proofs
namespace Go.Proofs.YtfpcjhajjejpdaaGreatDoor
def isD (c:UInt8):Bool:=decide (48≤c.toNat)&&decide (c.toNat≤57)
def zAJ (c:UInt8):Bool:=decide (c=43)||decide (c=45)
def dV (c:UInt8):Nat:=c.toNat-48
def wG:Nat:=999999999999999999
def zAj:List UInt8→Bool→Bool × List UInt8
 | [],m=>(m,[])
 | c::r,m=>if zAJ c=true then zAj r (m != decide (c=45)) else (m,c::r)
def zBM:List UInt8→Nat→Nat × List UInt8
 | [],n=>(n,[])
 | c::r,n=>if isD c=true then zBM r (min (10*n+dV c) 1000000000000) else (n,c::r)
def zCf:List UInt8→Nat→Nat→Nat
 | [],_,n=>n
 | c::r,u,n=>if isD c=true then zCf r (u / 10) (n+dV c*u) else n
def xT:List UInt8→Option (List UInt8)
 | []=>none
 | c::r=>if c=46 then some r else none
def zAV:Option (List UInt8)→Nat→Nat
 | some t,n=>zCf t 100000 n
 | none,n=>n
def zY0 (l:List UInt8):Nat:=min (zAV (xT (zBM l 0).2) (min ((zBM l 0).1*1000000) 1000000000000000000)) wG
def yQ (l:List UInt8):Int:=if (zAj l false).1=true then -(zY0 (zAj l false).2:Int) else zY0 (zAj l false).2
def vH:List UInt8→Nat→Nat
 | [],n=>n
 | c::r,n=>if (wG-dV c) / 10<n then wG else vH r (10*n+dV c)
def wZ (r:List UInt8):List UInt8:=match xT (r.dropWhile isD) with
 | some t=>t.takeWhile isD
 | none=>[]
def zKb (r:List UInt8):Nat:=vH (r.takeWhile isD++(wZ r++List.replicate 6 48).take 6) 0
def zHY (l:List UInt8):Int:=if (l.takeWhile zAJ).count 45 % 2=1 then -(zKb (l.dropWhile zAJ):Int) else zKb (l.dropWhile zAJ)
theorem zGj:∀(l:List UInt8) (m:Bool),zAj l m=((m != decide ((l.takeWhile zAJ).count 45 % 2=1)),l.dropWhile zAJ)
 | [],m=>by simp[zAj]
 | c::r,m=>by
   unfold zAj;by_cases h:zAJ c=true
   · rw[if_pos h,zGj r,List.takeWhile_cons_of_pos h,List.dropWhile_cons_of_pos h];refine Prod.ext ?_ rfl;by_cases hc:c=45
     · subst hc;rw[List.count_cons_self];cases m <;> by_cases h2:(r.takeWhile zAJ).count 45 % 2=1 <;> simp[h2] <;> omega
     · rw[List.count_cons_of_ne hc];simp[hc]
   · rw[if_neg h,List.takeWhile_cons_of_neg h,List.dropWhile_cons_of_neg h];simp
def zQ0 (l:List UInt8) (n:Nat):Nat:=l.foldl (fun n c=>10*n+dV c) n
theorem zDz:∀(l:List UInt8) (n:Nat),n≤zQ0 l n
 | [],n=>Nat.le_refl _
 | c::r,n=>by have:=zDz r (10*n+dV c);show n≤zQ0 r (10*n+dV c);omega
theorem zJa:∀(l:List UInt8) (n:Nat),n≤1000000000000→zBM l n=(min (zQ0 (l.takeWhile isD) n) 1000000000000,l.dropWhile isD)
 | [],n,h=>by simp[zBM,zQ0];omega
 | c::r,n,h=>by
   unfold zBM;by_cases hd:isD c=true
   · rw[if_pos hd,zJa r _ (by omega),List.takeWhile_cons_of_pos hd,List.dropWhile_cons_of_pos hd];refine Prod.ext ?_ rfl;show min (zQ0 (r.takeWhile isD) (min (10*n+dV c) 1000000000000)) 1000000000000=min (zQ0 (r.takeWhile isD) (10*n+dV c)) 1000000000000;by_cases hc:10*n+dV c≤1000000000000
     · rw[Nat.min_eq_left hc]
     · rw[Nat.min_eq_right (show 1000000000000≤10*n+dV c by omega)];have h1:=zDz (r.takeWhile isD) 1000000000000;have h2:=zDz (r.takeWhile isD) (10*n+dV c);omega
   · rw[if_neg hd,List.takeWhile_cons_of_neg hd,List.dropWhile_cons_of_neg hd];refine Prod.ext ?_ rfl;show n=min (zQ0 [] n) 1000000000000;simp[zQ0];omega
def fv:Nat→List UInt8→Nat
 | 0,_=>0
 | _+1,[]=>0
 | k+1,c::r=>if isD c=true then dV c*10 ^ k+fv k r else 0
def zCw:Nat→Nat
 | 0=>0
 | k+1=>10 ^ k
theorem zKi:∀k,zCw k / 10=zCw (k-1)
 | 0=>rfl
 | 1=>rfl
 | k+2=>by show 10 ^ (k+1) / 10=10 ^ k;rw[Nat.pow_succ];omega
theorem zHb:∀(t:List UInt8) (k n:Nat),zCf t (zCw k) n=n+fv k t
 | [],0,n=>rfl
 | [],k+1,n=>rfl
 | c::r,k,n=>by
   unfold zCf;by_cases hd:isD c=true
   · rw[if_pos hd,zKi,zHb r]
     cases k with
     | zero=>simp[zCw,fv]
     | succ k=>simp only[fv,if_pos hd,zCw,Nat.add_sub_cancel];omega
   · rw[if_neg hd]
     cases k with
     | zero=>simp[fv]
     | succ k=>simp[fv,hd]
theorem zHg (c:UInt8) (h:isD c=true):dV c≤9:=by
 simp[isD]at h;unfold dV;omega
theorem zLE:∀(k:Nat) (t:List UInt8),fv k t<10 ^ k
 | 0,_=>by simp[fv]
 | k+1,[]=>by simp[fv];exact Nat.pow_pos (by omega)
 | k+1,c::r=>by
   unfold fv;split
   · rename_i hd;have h1:=zLE k r;have h2:=zHg c hd;have h3:dV c*10 ^ k≤9*10 ^ k:=Nat.mul_le_mul_right _ h2;rw[Nat.pow_succ];omega
   · exact Nat.pow_pos (by omega)
theorem zAB:∀(k a:Nat),zQ0 (List.replicate k 48) a=a*10 ^ k
 | 0,a=>by simp[zQ0]
 | k+1,a=>by show zQ0 (List.replicate k 48) (10*a+dV 48)=_;rw[zAB k,Nat.pow_succ];have:dV 48=0:=rfl;rw[this,Nat.add_zero,Nat.mul_comm 10 a,Nat.mul_assoc,Nat.mul_comm 10]
theorem zCv:∀(k:Nat) (t:List UInt8) (a:Nat),zQ0 ((t.takeWhile isD++List.replicate k 48).take k) a=a*10 ^ k+fv k t
 | 0,t,a=>by simp[zQ0,fv]
 | k+1,[],a=>by rw[List.takeWhile_nil,List.nil_append,List.take_of_length_le (by simp),zAB];simp[fv]
 | k+1,c::r,a=>by
   by_cases hd:isD c=true
   · rw[List.takeWhile_cons_of_pos hd];show zQ0 ((r.takeWhile isD++List.replicate (k+1) 48).take k) (10*a+dV c)=_;have e:(r.takeWhile isD++List.replicate (k+1) 48).take k=(r.takeWhile isD++List.replicate k 48).take k:=by rw[List.replicate_succ',←List.append_assoc,List.take_append_of_le_length (by simp)]
     rw[e,zCv k r];simp only[fv,if_pos hd,Nat.pow_succ];rw[Nat.add_mul,Nat.mul_comm 10 a,Nat.mul_assoc,Nat.mul_comm 10];omega
   · rw[List.takeWhile_cons_of_neg hd,List.nil_append,List.take_of_length_le (by simp),zAB];simp[fv,hd]
theorem zDM:∀(l:List UInt8) (n:Nat),(∀c∈l,dV c≤9)→n≤wG→vH l n=min (zQ0 l n) wG
 | [],n,_,h=>by simp[vH,zQ0];omega
 | c::r,n,hl,h=>by
   have hc:=hl c List.mem_cons_self;unfold vH;have hm:wG=999999999999999999:=rfl;split
   · rename_i h1;have h2:wG<10*n+dV c:=by omega
     have h3:=zDz r (10*n+dV c);show wG=min (zQ0 r (10*n+dV c)) wG;omega
   · exact zDM r _ (fun x hx=>hl x (List.mem_cons_of_mem _ hx)) (by omega)
theorem zR0 {p:UInt8→Bool}:∀(l:List UInt8) (c:UInt8),c∈l.takeWhile p→p c=true
 | [],c,h=>by simp at h
 | x::r,c,h=>by
   by_cases hx:p x=true
   · rw[List.takeWhile_cons_of_pos hx]at h;rcases List.mem_cons.1 h with rfl | h
     · exact hx
     · exact zR0 r c h
   · rw[List.takeWhile_cons_of_neg hx]at h;cases h
theorem zFQ (r:List UInt8):zKb r=zY0 r:=by
 unfold zKb zY0;rw[zJa r 0 (by omega)];have hm:wG=999999999999999999:=rfl
 have hall:∀c∈r.takeWhile isD++(wZ r++List.replicate 6 48).take 6,dV c≤9:=by
  intro c hc;rcases List.mem_append.1 hc with h | h
  · exact zHg c (zR0 _ _ h)
  · rcases List.mem_append.1 (List.mem_of_mem_take h) with h | h
    · unfold wZ at h;split at h
      · exact zHg c (zR0 _ _ h)
      · cases h
    · rw[List.eq_of_mem_replicate h];decide
 rw[zDM _ _ hall (by omega)]
 have hv:zQ0 (r.takeWhile isD++(wZ r++List.replicate 6 48).take 6) 0=zQ0 (r.takeWhile isD) 0*10 ^ 6+(match xT (r.dropWhile isD) with | some t=>fv 6 t | none=>0):=by
  show List.foldl _ 0 _=_;rw[List.foldl_append];show zQ0 _ (zQ0 _ 0)=_;unfold wZ
  cases xT (r.dropWhile isD) with
  | some t=>exact zCv 6 t _
  | none=>have:=zCv 6 [] (zQ0 (r.takeWhile isD) 0);simpa [fv] using this
 rw[hv];simp only
 cases xT (r.dropWhile isD) with
 | some t=>have h1:=zHb t 6 (min (min (zQ0 (r.takeWhile isD) 0) 1000000000000*1000000) 1000000000000000000);have h2:zCw 6=100000:=rfl;rw[h2]at h1;simp only[zAV,h1];have h3:=zLE 6 t;omega
 | none=>simp only[zAV];omega
theorem zIT (l:List UInt8):zHY l=yQ l:=by
 unfold zHY yQ;rw[zGj];simp only[zFQ];by_cases h:(l.takeWhile zAJ).count 45 % 2=1 <;> simp[h]
theorem zAO (l:List UInt8):zY0 l≤wG:=by unfold zY0;exact Nat.min_le_right _ _
theorem zLe (l:List UInt8):-(wG:Int)≤yQ l∧yQ l≤wG:=by
 have:=zAO (zAj l false).2;unfold yQ;split <;> omega
end Go.Proofs.YtfpcjhajjejpdaaGreatDoor
