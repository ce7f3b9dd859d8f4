import Derived.Test.YtfpcjhajjejpdaaGreatDoorProg
import Derived.Test.YtfpcjhajjejpdaaGreatDoorZ28
import Derived.Test.YtfpcjhajjejpdaaGreatDoorZ13
import Derived.Test.YtfpcjhajjejpdaaGreatDoorZ01
import Derived.Test.YtfpcjhajjejpdaaGreatDoorZ25
import Derived.Ground.GgwProg
import Derived.Ground.Names2Prog
import Derived.Ground.SlgnProg
import Derived.Shelf.GgClosure.StringsIndexFunc
import Derived.Shelf.GgClosure.StringsIndexFuncTop
import Derived.Shelf.LaysM
import Derived.Shelf.Slices.Cells
import Derived.Shelf.Slices.Clone
import Derived.Shelf.Slices.CompactS
import Derived.Shelf.Slices.Empties2
import Derived.Shelf.Slices.Equal
import Derived.Shelf.Slices.In.SortNone
import Derived.Shelf.Slices.Turned
import Derived.Shelf.SlicesE.Clone
import Derived.Shelf.SlicesG.SearchI
import Derived.Shelf.Small.Bits
import Derived.Shelf.Small.Strs
import Derived.Shelf.Small.Utf8
import Derived.Shelf.Small.Wraps
import Derived.Shelf.Sort.Plain
import Derived.Shelf.Strconv.Itoa0
import Derived.Shelf.Strconv.Itoa1
import Derived.Shelf.Strconv.Itoa2
import Derived.Shelf.Strconv.Itoa3
import Derived.Shelf.Strconv.Itoa4
import Derived.Shelf.Strings.AsciiSet
import Derived.Shelf.Strings.Builder1
import Derived.Shelf.Strings.Builder2
import Derived.Shelf.Strings.Count
import Derived.Shelf.Strings.Explode
import Derived.Shelf.Strings.FuncGrows
import Derived.Shelf.Strings.OnBuilder
import Derived.Shelf.Strings.Prefix
import Derived.Shelf.Strings.Replace
import Derived.Shelf.Strings.RuneCount
import Derived.Shelf.Strings.Runes
import Derived.Shelf.Strings.Search1
import Derived.Shelf.Strings.Search2
import Derived.Shelf.Strings.Search3
import Derived.Shelf.Strings.Shaped
import Derived.Shelf.Strings.Split
import Derived.Shelf.Strings.SplitShaped
import Derived.Shelf.Strings.Trim
import Derived.Shelf.Unicode.Decode
import Derived.Shelf.Unicode.DecodeAny
import Derived.Shelf.Unicode.DecodeLast
import Derived.Shelf.Unicode.DecodeSlow
import Derived.Shelf.Utf8.RuneCount
import Derived.Lib.IndexBytes
namespace Go.Proofs
open Go.Shelf
def Tryz.lays156_ren:Go.Shelf.Ren:=⟨fun | 156=>191 | 165=>220 | 166=>221 | 169=>194 | 240=>244 | 241=>245 | 276=>269 | 277=>270 | n=>n,fun | 31=>27 | 9=>9 | 3=>3 | 4=>4 | 0=>0 | 20=>20 | 72=>177 | 76=>199 | 70=>175 | 37=>22 | 75=>198 | 127=>203 | 164=>233 | 5=>5 | 80=>179 | n=>n,fun | n=>n⟩
theorem Tryz.lays156:Go.Proofs.Lays.n156 Tryz.prog Tryz.lays156_ren:={
 mixed:=by kernel_rfl
 f156:=Tryz.func191.trans (congrArg some (by kernel_rfl))
 f165:=Tryz.func220.trans (congrArg some (by kernel_rfl))
 f166:=Tryz.func221.trans (congrArg some (by kernel_rfl))
 f169:=Tryz.func194.trans (congrArg some (by kernel_rfl))
 f240:=Tryz.func244.trans (congrArg some (by kernel_rfl))
 f241:=Tryz.func245.trans (congrArg some (by kernel_rfl))
 f276:=Tryz.func269.trans (congrArg some (by kernel_rfl))
 f277:=Tryz.func270.trans (congrArg some (by kernel_rfl))
 t0:=Tryz.underlying0
 a0:=Tryz.isAgg0
 z0:=Tryz.sizeOf0
 v0:=Tryz.zeroValue0
 t3:=Tryz.underlying3
 a3:=Tryz.isAgg3
 z3:=Tryz.sizeOf3
 v3:=Tryz.zeroValue3
 t4:=Tryz.underlying4
 a4:=Tryz.isAgg4
 z4:=Tryz.sizeOf4
 v4:=Tryz.zeroValue4
 t9:=Tryz.underlying9
 a9:=Tryz.isAgg9
 z9:=Tryz.sizeOf9
 v9:=Tryz.zeroValue9
 t20:=Tryz.underlying20
 a20:=Tryz.isAgg20
 z20:=Tryz.sizeOf20
 v20:=Tryz.zeroValue20
 t31:=Tryz.underlying27
 a31:=Tryz.isAgg27
 z31:=Tryz.sizeOf27
 v31:=Tryz.zeroValue27
 t37:=Tryz.underlying22
 a37:=Tryz.isAgg22
 z37:=Tryz.sizeOf22
 v37:=Tryz.zeroValue22
 t70:=Tryz.underlying175
 a70:=Tryz.isAgg175
 z70:=Tryz.sizeOf175
 v70:=Tryz.zeroValue175
 t72:=Tryz.underlying177
 a72:=Tryz.isAgg177
 z72:=Tryz.sizeOf177
 v72:=Tryz.zeroValue177
 t75:=Tryz.underlying198
 a75:=Tryz.isAgg198
 z75:=Tryz.sizeOf198
 v75:=Tryz.zeroValue198
 t76:=Tryz.underlying199
 a76:=Tryz.isAgg199
 z76:=Tryz.sizeOf199
 v76:=Tryz.zeroValue199
 t127:=Tryz.underlying203
 a127:=Tryz.isAgg203
 z127:=Tryz.sizeOf203
 v127:=Tryz.zeroValue203
 t164:=Tryz.underlying233
 a164:=Tryz.isAgg233
 z164:=Tryz.sizeOf233
 v164:=Tryz.zeroValue233 }
theorem Tryz.Builder_Extra_156:Builder.Extra Tryz.prog Tryz.lays156_ren:={
 sizeBuilder:=by kernel_rfl
 liesBuilder:=by kernel_rfl
 t5:=Tryz.underlying5
 a5:=Tryz.isAgg5
 z5:=Tryz.sizeOf5
 v5:=Tryz.zeroValue5
 infoByte:=by kernel_rfl
 cellsByte:=by kernel_rfl
 sizeByte:=by kernel_rfl
 neB5:=by decide }
open Go.RowKit in
theorem Tryz.strings_Join_none (a:Option Addr) (c:Nat) (sep:ByteArray) (w:World) :
 Calls Tryz.prog 191 #[.slice a 0 c,.string sep] w fun e w'=>e=.returned (.string ⟨#[]⟩)∧w'=w:=Any.strings_Join_none Tryz.lays156 Tryz.Builder_Extra_156 a c sep w
open Go.RowKit in
theorem Tryz.strings_Join (bk o c:Nat) (xs:List ByteArray) (sep:ByteArray) (w:World) (hcells:∀(j:Nat) x,xs[j]?=some x→w.cell? ⟨bk,o+j,none⟩=some (.string x)) (hbk:bk<w.heap.size) (hN:xs.length≤140737488355328) (hcap:xs.length≤c) (hlen:(Lib.join (xs.map (·.data.toList)) sep.data.toList).length≤140737488355328) :
 Calls Tryz.prog 191 #[.slice (some ⟨bk,o,none⟩) xs.length c,.string sep] w fun e w'=>e=.returned (.string ⟨(Lib.join (xs.map (·.data.toList)) sep.data.toList).toArray⟩)∧Below w.heap.size w w':=Any.strings_Join Tryz.lays156 Tryz.Builder_Extra_156 bk o c xs sep w hcells hbk hN hcap hlen
def Tryz.lays143_ren:Go.Shelf.Ren:=⟨fun | 143=>226 | 219=>247 | 217=>271 | 225=>272 | 224=>273 | 267=>274 | 266=>287 | 314=>288 | n=>n,fun | 9=>9 | 3=>3 | 4=>4 | 5=>5 | 46=>180 | 146=>249 | 51=>230 | n=>n,fun | 1=>0 | n=>n⟩
theorem Tryz.lays143:Go.Proofs.Lays.n143 Tryz.prog Tryz.lays143_ren:={
 mixed:=by kernel_rfl
 f143:=Tryz.func226.trans (congrArg some (by kernel_rfl))
 f217:=Tryz.func271.trans (congrArg some (by kernel_rfl))
 f219:=Tryz.func247.trans (congrArg some (by kernel_rfl))
 f224:=Tryz.func273.trans (congrArg some (by kernel_rfl))
 f225:=Tryz.func272.trans (congrArg some (by kernel_rfl))
 f266:=Tryz.func287.trans (congrArg some (by kernel_rfl))
 f267:=Tryz.func274.trans (congrArg some (by kernel_rfl))
 f314:=Tryz.func288.trans (congrArg some (by kernel_rfl))
 t3:=Tryz.underlying3
 a3:=Tryz.isAgg3
 z3:=Tryz.sizeOf3
 v3:=Tryz.zeroValue3
 t4:=Tryz.underlying4
 a4:=Tryz.isAgg4
 z4:=Tryz.sizeOf4
 v4:=Tryz.zeroValue4
 t5:=Tryz.underlying5
 a5:=Tryz.isAgg5
 z5:=Tryz.sizeOf5
 v5:=Tryz.zeroValue5
 t9:=Tryz.underlying9
 a9:=Tryz.isAgg9
 z9:=Tryz.sizeOf9
 v9:=Tryz.zeroValue9
 t46:=Tryz.underlying180
 a46:=Tryz.isAgg180
 z46:=Tryz.sizeOf180
 v46:=Tryz.zeroValue180
 t51:=Tryz.underlying230
 a51:=Tryz.isAgg230
 z51:=Tryz.sizeOf230
 v51:=Tryz.zeroValue230
 t146:=Tryz.underlying249
 a146:=Tryz.isAgg249
 z146:=Tryz.sizeOf249
 v146:=Tryz.zeroValue249
 g1:=by kernel_rfl }
open Go.RowKit Go.Lib in
theorem Tryz.strings_Index_one (s:ByteArray) (c:UInt8) (w:World) :
 Calls Tryz.prog 226 #[.string s,.string ⟨#[c]⟩] w fun e w'=>e=.returned (.int .i64 (Lib.indexByte s.data.toList c))∧w'=w:=Any.strings_Index_one Tryz.lays143 s c w
def Tryz.lays221_ren:Go.Shelf.Ren:=⟨fun | 221=>200 | 268=>227 | 138=>206 | 143=>226 | 195=>236 | 197=>248 | 218=>237 | 219=>247 | 260=>275 | 217=>271 | 225=>272 | 224=>273 | 267=>274 | 266=>287 | 314=>288 | n=>n,fun | 9=>9 | 3=>3 | 31=>27 | 4=>4 | 0=>0 | 105=>219 | 21=>21 | 5=>5 | 46=>180 | 119=>251 | 139=>254 | 138=>253 | 146=>249 | 51=>230 | n=>n,fun | 1=>0 | 3=>1 | 4=>2 | n=>n⟩
theorem Tryz.lays221:Go.Proofs.Lays.n221 Tryz.prog Tryz.lays221_ren:={
 mixed:=by kernel_rfl
 f138:=Tryz.func206.trans (congrArg some (by kernel_rfl))
 f143:=Tryz.func226.trans (congrArg some (by kernel_rfl))
 f195:=Tryz.func236.trans (congrArg some (by kernel_rfl))
 f197:=Tryz.func248.trans (congrArg some (by kernel_rfl))
 f217:=Tryz.func271.trans (congrArg some (by kernel_rfl))
 f218:=Tryz.func237.trans (congrArg some (by kernel_rfl))
 f219:=Tryz.func247.trans (congrArg some (by kernel_rfl))
 f221:=Tryz.func200.trans (congrArg some (by kernel_rfl))
 f224:=Tryz.func273.trans (congrArg some (by kernel_rfl))
 f225:=Tryz.func272.trans (congrArg some (by kernel_rfl))
 f260:=Tryz.func275.trans (congrArg some (by kernel_rfl))
 f266:=Tryz.func287.trans (congrArg some (by kernel_rfl))
 f267:=Tryz.func274.trans (congrArg some (by kernel_rfl))
 f268:=Tryz.func227.trans (congrArg some (by kernel_rfl))
 f314:=Tryz.func288.trans (congrArg some (by kernel_rfl))
 t0:=Tryz.underlying0
 a0:=Tryz.isAgg0
 z0:=Tryz.sizeOf0
 v0:=Tryz.zeroValue0
 t3:=Tryz.underlying3
 a3:=Tryz.isAgg3
 z3:=Tryz.sizeOf3
 v3:=Tryz.zeroValue3
 t4:=Tryz.underlying4
 a4:=Tryz.isAgg4
 z4:=Tryz.sizeOf4
 v4:=Tryz.zeroValue4
 t5:=Tryz.underlying5
 a5:=Tryz.isAgg5
 z5:=Tryz.sizeOf5
 v5:=Tryz.zeroValue5
 t9:=Tryz.underlying9
 a9:=Tryz.isAgg9
 z9:=Tryz.sizeOf9
 v9:=Tryz.zeroValue9
 t21:=Tryz.underlying21
 a21:=Tryz.isAgg21
 z21:=Tryz.sizeOf21
 v21:=Tryz.zeroValue21
 t31:=Tryz.underlying27
 a31:=Tryz.isAgg27
 z31:=Tryz.sizeOf27
 v31:=Tryz.zeroValue27
 t46:=Tryz.underlying180
 a46:=Tryz.isAgg180
 z46:=Tryz.sizeOf180
 v46:=Tryz.zeroValue180
 t51:=Tryz.underlying230
 a51:=Tryz.isAgg230
 z51:=Tryz.sizeOf230
 v51:=Tryz.zeroValue230
 t105:=Tryz.underlying219
 a105:=Tryz.isAgg219
 z105:=Tryz.sizeOf219
 v105:=Tryz.zeroValue219
 t119:=Tryz.underlying251
 a119:=Tryz.isAgg251
 z119:=Tryz.sizeOf251
 t138:=Tryz.underlying253
 a138:=Tryz.isAgg253
 z138:=Tryz.sizeOf253
 v138:=Tryz.zeroValue253
 t139:=Tryz.underlying254
 a139:=Tryz.isAgg254
 z139:=Tryz.sizeOf254
 v139:=Tryz.zeroValue254
 t146:=Tryz.underlying249
 a146:=Tryz.isAgg249
 z146:=Tryz.sizeOf249
 v146:=Tryz.zeroValue249
 g1:=by kernel_rfl
 g3:=by kernel_rfl
 g4:=by kernel_rfl }
end Go.Proofs
set_option maxHeartbeats 8000000
open Go.Lib renaming hid → zh
namespace Go.Proofs.YtfpcjhajjejpdaaGreatDoor
open Go.RowKit
theorem zKe (s:ByteArray) (w:World) (hs:s.size≤1048576) :
 Calls Tryz.prog 164 #[.string s,.string ⟨#[94]⟩] w fun e w'=>∃v,e=.returned v∧Own.SubO w' w.heap.size v (uZ 94 s)∧Below w.heap.size w w':=by
 have hle:=Lib.countB_le ⟨#[94]⟩ (by decide) s.size s (Nat.le_refl _);have hlen:=Lib.splitB_all ⟨#[94]⟩ (by decide) 0 _ s rfl
 have c:=Any.strings_genSplit_core Tryz.lays221 (by kernel_rfl) s ⟨#[94]⟩ 0 (-1) (Lib.countB s ⟨#[94]⟩+1) w (by omega) (by decide) (Nat.zero_le _)
  (fun x c hx=>(Tryz.strings_Index_one x 94 _).mono fun e w' ⟨he,hw⟩=>⟨by rw[he];show _=Ending.returned (Value.int .i64 (Lib.index x.data.toList [94]));rw[Lib.index_one],hw⟩)
  ((Tryz.strings_Count_one s 94 w).mono fun e w' ⟨he,hw⟩=>⟨by rw[he];show _=Ending.returned (Value.int .i64 ((Lib.count s.data.toList [94]:Nat):Int));rw[Lib.count_one];rfl,hw⟩)
  (by decide) (by decide) (by rw[if_pos (by decide)];omega)
 rw[Nat.add_sub_cancel,hlen]at c;have e2:Lib.cellsOf (Lib.splitB ⟨#[94]⟩ 0 (Lib.countB s ⟨#[94]⟩) s) (Lib.countB s ⟨#[94]⟩+1)=((Lib.splitB ⟨#[94]⟩ 0 (Lib.countB s ⟨#[94]⟩) s).map Value.string).toArray:=by rw[←hlen];exact Lib.cellsOf_full _
 rw[e2,zDI]at c;rw[zDI]at hlen;have HN:Hid (Lib.countB s ⟨#[94]⟩+1=(uZ 94 s).length):=hlen.symm;rw[HN.out]at c;have hml:(uZ 94 s).length≤s.size+1:=by rw[hlen];omega
 have HC:=zh c;clear c e2 hlen hle;generalize uZ 94 s=ss at *;go_enter Tryz.func164,Tryz.ntmps164;go_wp2_with fail;refine HC.out.mono ?_;rintro e w1 ⟨rfl,rfl⟩;go_wp2_with fail;go_ret;exact⟨_,rfl,Own.sub_of_blk (ss:=ss) (zD0 rfl) (Nat.le_refl _) (by unfold maxLen;omega),Below.new _ _⟩
def wH (row:List ByteArray):ByteArray:=⟨(Lib.join ((row.drop 1).map (·.data.toList)) [94]).toArray⟩
theorem zIU (c:UInt8) (m:Nat):∀(l:List (List UInt8)),(∀x∈l,x.length≤m)→(Lib.join l [c]).length≤l.length*(m+1)
 | [],_=>by simp[Lib.join,List.intercalate]
 | [x],h=>by have:=h x (by simp);rw[zAs];simp;omega
 | x::y::r,h=>by have ih:=zIU c m (y::r) (fun z hz=>h z (List.mem_cons_of_mem _ hz));have:=h x (by simp);rw[yR];simp only[List.length_append,List.length_cons,List.length_nil]at ih ⊢;rw[Nat.add_mul (r.length+1)];omega
theorem zLc (row:List ByteArray) (h:∀s∈row,s.size≤1048576) (hl:row.length≤1048576):(Lib.join ((row.drop 1).map (·.data.toList)) [94]).length≤140737488355328:=by
 have h1:=zIU 94 1048576 ((row.drop 1).map (·.data.toList)) (fun x hx=>by
  obtain⟨s,hs,rfl⟩:=List.mem_map.1 hx;have:=h s (List.mem_of_mem_drop hs);rw[Lib.size_eq]at this
  exact this)
 have h2:((row.drop 1).map (·.data.toList)).length≤1048576:=by rw[List.length_map,List.length_drop];omega
 have h3:=Nat.mul_le_mul_right 1048577 h2;omega
theorem zHU (r0:Value) (row:List ByteArray) (w:World) (hr:RowR w w.heap.size r0 row) (hs:yH row) (hpos:0<row.length) :
 Calls Tryz.prog 143 #[.agg #[r0]] w fun e w'=>e=.returned (.string (wH row))∧Below w.heap.size w w':=by
 have HL:=zh (zLc row hs.2 hs.1);obtain⟨R0,rn,rc,rfl,hS,hrc⟩:=hr;have hln:=hS.1;have hn:rn≤1048576:=by rw[←hln];exact hs.1
 obtain⟨rb,ro,rfl,hrb,hcell⟩:=hS.2 (by omega);have HP:Hid (wH row=⟨(Lib.join ((row.drop 1).map (·.data.toList)) [94]).toArray⟩):=rfl;have HB0:=zh (Below.new w (.cells #[.slice (some ⟨rb,ro,none⟩) rn rc] 40));have HE0:Hid (rn=1→wH row=⟨#[]⟩):=fun h=>by unfold wH;rw[List.drop_of_length_le (by omega)];rfl
 have HK:Hid (∀W,Below w.heap.size w W→Calls Tryz.prog 191 #[.slice (some ⟨rb,ro+1,none⟩) (rn-1) (rc-1),.string ⟨#[94]⟩] W fun e w'=>e=.returned (.string (wH row))∧Below W.heap.size W w'):=fun W hW=>by
  have h:=Tryz.strings_Join rb (ro+1) (rc-1) (row.drop 1) ⟨#[94]⟩ W (fun j x hx=>by
   rw[List.getElem?_drop]at hx
   have hj:1+j<row.length:=by
    rcases Nat.lt_or_ge (1+j) row.length with h | h
    · exact h
    · rw[List.getElem?_eq_none h]at hx;cases hx
   have h1:=(hW.cell (p:=⟨rb,ro+(1+j),none⟩) hrb).trans (hcell (1+j) (by omega));rw[List.getD_eq_getElem?_getD,hx]at h1;rw[Nat.add_assoc]
   exact h1) (Nat.lt_of_lt_of_le hrb hW.size) (by rw[List.length_drop];omega) (by rw[List.length_drop];omega) HL.out
  rw[List.length_drop,hln]at h;exact h
 have hrn:(1:Int)≤(rn:Int):=by omega
 clear hS hcell hs;generalize wH row=R at *;go_enter Tryz.func143,Tryz.ntmps143;by_cases hc1:rc=1
 · obtain rfl:rn=1:=by omega
   subst hc1;have HE:=zh (HE0.out rfl);have HJ:=zh (fun W=>Tryz.strings_Join_none (some ⟨rb,ro,none⟩) 0 ⟨#[94]⟩ W);go_wp2_with fail;refine(HJ.out _).mono ?_;rintro e w1 ⟨rfl,rfl⟩;go_wp2_with fail;go_ret;exact⟨by rw[HE.out];rfl,HB0.out⟩
 · go_wp2_with fail;refine(HK.out _ HB0.out).mono ?_;rintro e w1 ⟨rfl,hb1⟩;have HB1:=zh (HB0.out.later hb1);clear hb1;go_wp2_with fail;go_ret;exact⟨rfl,HB1.out⟩
end Go.Proofs.YtfpcjhajjejpdaaGreatDoor
namespace Go.Proofs.YtfpcjhajjejpdaaGreatDoor
open Go.RowKit
set_option linter.unusedVariables false
def rS:ByteArray:=⟨#[114]⟩
def iS:ByteArray:=⟨#[105]⟩
def zDr (g:ByteArray) (r:List ByteArray):ChgD:=⟨1,g,[rS,r.getD 0 ByteArray.empty],wH r⟩
def cellAt (cols r:List ByteArray) (c:ByteArray):ByteArray:=r.getD (xA cols c).toNat ByteArray.empty
def zDt (kind:Int) (g:ByteArray) (cols r:List ByteArray) (c:ByteArray):List ChgD :=
 if cellAt cols r c=⟨#[]⟩ then [] else [⟨kind,g,[iS,c,cellAt cols r c,r.getD 0 ByteArray.empty],⟨#[]⟩⟩]
def zAP (kind:Int) (b:TableD) (r:List ByteArray):List ChgD:=b.idx.flatMap (zDt kind b.glob b.cols r)
def zIm (fs:List NodeD) (b:TableD) (r:List ByteArray):Int × List ChgD :=
 if (uA fs&&(wM b&&vQ b.cols r))=true then
  (if 0≤atI (xB b.glob fs) (r.getD 0 ByteArray.empty) then (5,[]) else if 24≤(xB b.glob fs).length then (4,[]) else (0,zDr b.glob r::zAP 1 b r))
 else (1,[])
theorem zKy {r:List ByteArray} (h:r.length≤1):wH r=⟨#[]⟩:=by
 unfold wH;rw[List.drop_of_length_le h];rfl
theorem zKx {r:List ByteArray} (h:1<r.length):wH (r.take 2)=r.getD 1 ByteArray.empty:=by
 match r,h with
 | _::y::t,_=>unfold wH;simp[Lib.join]
theorem zJz {r:List ByteArray} {k:Nat} (h1:1<k) (h:k<r.length):wH (r.take (k+1))=(wH (r.take k)++⟨#[94]⟩)++r.getD k ByteArray.empty:=by
 have e:(r.take (k+1)).drop 1=(r.take k).drop 1++[r.getD k ByteArray.empty]:=by rw[List.take_succ_eq_append_getElem h,List.drop_append_of_le_length (by rw[List.length_take];omega),List.getD_eq_getElem?_getD,List.getElem?_eq_getElem h,Option.getD_some]
 have hj:∀(l:List (List UInt8)) (x:List UInt8),l≠[]→Lib.join (l++[x]) [94]=Lib.join l [94]++[94]++x:=by
  intro l
  induction l with
  | nil=>intro x h;exact absurd rfl h
  | cons a t ih =>
    intro x _
    match t,ih with
    | [],_=>simp[Lib.join]
    | b::t,ih=>have h2:=ih x (by simp);rw[List.cons_append,List.cons_append,yR,yR,←List.cons_append,h2];simp
 unfold wH
 rw[e,List.map_append,List.map_singleton,hj _ _ (by
  intro e2;have:=congrArg List.length e2;simp only[List.length_map,List.length_drop,List.length_take,List.length_nil]at this
  omega)]
 apply uR;simp[yD,ByteArray.data_append]
theorem OwnL.app {α:Type} [Inhabited α] {K:Own.Kind α} {w w':World} {base t:Nat} {v v1 u:Value} {fs gs:List α} {vs us:List Value} (h:Own.OwnL K w base t v fs vs) (k:Own.OwnL K w base t u gs us) (hap:∀a∈vs,∀b∈us,Own.apart a b)
 (hrow:w'.ownsRow base t K.size v1 (fs.length+gs.length) (Own.flat K fs vs++Own.flat K gs us)) (hg:w.grownBy w' v.ownBlock) (ht:9≠t):Own.OwnL K w' base t v1 (fs++gs) (vs++us):=by
 have hvl:=h.len;have hul:=k.len;refine⟨by simp[hvl,hul],?_,fun j hj=>?_,?_⟩
 · rw[List.length_append,Own.flat_append K _ _ _ _ hvl];exact hrow
 · rw[List.length_append]at hj;by_cases e:j<fs.length
   · rw[List.getD_eq_getElem?_getD,List.getElem?_append_left (by omega),←List.getD_eq_getElem?_getD,List.getD_eq_getElem?_getD (l:=fs++gs),List.getElem?_append_left e,←List.getD_eq_getElem?_getD];exact Own.kept_apart (h.subs j e) hg (Own.apart_types (h.subs j e) h.row ht)
   · rw[List.getD_eq_getElem?_getD,List.getElem?_append_right (by omega),←List.getD_eq_getElem?_getD,List.getD_eq_getElem?_getD (l:=fs++gs),List.getElem?_append_right (by omega),←List.getD_eq_getElem?_getD,hvl];exact Own.kept_apart (k.subs _ (by omega)) hg (Own.apart_types (k.subs _ (by omega)) h.row ht)
 · rw[List.pairwise_append];exact⟨h.aprt,k.aprt,hap⟩
theorem _root_.Go.Proofs.YtfpcjhajjejpdaaGreatDoor.Own.SubO.setBlk {w:World} {base g tp i:Nat} {v u:Value} {ss:List ByteArray} {cs:Array Value} (h:Own.SubO w base v ss) (hB:Blk w g tp cs) (h2:9≠tp):Own.SubO (w.setCell ⟨g,i,none⟩ u) base v ss :=
 World.ownsRow.kept h (Own.grown_set _ _ _ _) (.inr (Own.own_blk_ne h hB h2))
theorem zHm {w:World} {base:Nat} {d:ChgD} {v:Value} (hs:Own.SubO w base v d.subs) (hb:base≤w.heap.size):Own.OwnL zCj (w.alloc (.cells #[.int .i64 d.kind,.string d.name,v,.string d.val] 88)) base 88 (.slice (some ⟨w.heap.size,0,none⟩) 1 1) [d] [v]:=by
 refine⟨rfl,?_,fun j hj=>?_,List.pairwise_singleton _ _⟩
 · have h:=World.ownsRow_lit (base:=base) (e:=88) (size:=4) w #[.int .i64 d.kind,.string d.name,v,.string d.val] 1 hb (by unfold maxLen;omega) rfl;exact h
 · have hj:j=0:=by simpa using hj
   subst hj;exact Own.own_later hs (Below.new _ _)
theorem zIK {w:World} {base:Nat} (ss:List ByteArray) (cs:Array Value) (hb:base≤w.heap.size) (hm:ss.length≤1048576) (h:cs=wX ss):Own.SubO (w.alloc (.cells cs 9)) base (.slice (some ⟨w.heap.size,0,none⟩) ss.length ss.length) ss:=by
 subst h;exact Own.sub_of_blk (heap_alloc_new w _) hb (by unfold maxLen;omega)
theorem zKG (kind:Int) (g:ByteArray) (cols r:List ByteArray) (c:ByteArray):(zDt kind g cols r c).length≤1:=by
 unfold zDt;split <;> simp
end Go.Proofs.YtfpcjhajjejpdaaGreatDoor
namespace Go.Proofs.YtfpcjhajjejpdaaGreatDoor
open Go.RowKit
set_option linter.unusedVariables false
set_option maxRecDepth 100000 in
theorem zGH (r0:Value) (r:List ByteArray) (w:World) (h:RowR w w.heap.size r0 r) (hsm:yH r) :
 Calls Tryz.prog 150 #[.agg #[r0]] w fun e w'=>e=.returned (.string (wH r))∧Below w.heap.size w w':=by
 obtain⟨A,n,c,rfl,hs,hnc⟩:=h;have hn:=hsm.1
 have HZ:Hid (∀k,(r.getD k ByteArray.empty).size≤1048576):=fun k=>by
  by_cases hk:k<r.length
  · exact hsm.2 _ (xE r k hk)
  · rw[List.getD_eq_getElem?_getD,List.getElem?_eq_none (by omega)];simp
 clear hsm;have Hs:=zh hs;have HL:=zh hs.1;rw[hs.1]at hn;have HN:Hid (wH (r.take 1)=⟨#[]⟩):=zKy (by rw[List.length_take];omega);have H2:Hid (1<n→wH (r.take 2)=r.getD 1 ByteArray.empty):=fun h=>zKx (by rw[HL.out];exact h);have HST:Hid (∀k,1<k→k<n→wH (r.take (k+1))=(wH (r.take k)++⟨#[94]⟩)++r.getD k ByteArray.empty):=fun k h1 h2=>zJz h1 (by rw[HL.out];exact h2);have HE:Hid (∀k,n≤k→wH (r.take k)=wH r):=fun k h=>by rw[List.take_of_length_le (by rw[HL.out];exact h)]
 clear hs;generalize wH r=R at *;go_enter Tryz.func150,Tryz.ntmps150;go_wp2_with fail;go_loopw [3,4] (fun o i wr=>∃(k:Nat),1≤k∧(k≤n∨k=1)∧i=.int .i64 k∧o=.string (wH (r.take k))∧Hid ((wH (r.take k)).size≤k*1048577)∧Below (w.heap.size+1) (w.alloc (.cells #[.slice A n c] 40)) wr) (fun _ i _=>n-(intOf i).toNat);case atStart=>exact⟨1,Nat.le_refl _,.inr rfl,rfl,by rw[HN.out],by unfold Hid;rw[HN.out];exact Nat.zero_le _,Below.refl _ _⟩
 case round =>
  obtain⟨k,hk1,hk,rfl,rfl,HSZ,hb⟩:=hrel;have p0:=(Blk.later (heap_alloc_new w _) hb (by omega)).cell 0;simp at p0;have hz0:w.heap.size<wr.heap.size:=by have:=hb.size;simp at this;omega
  have HB:=zh hb;have HBw:=zh ((Below.new _ _).trans (hb.mono (by omega)));clear hb;by_cases hlt:k<n
  · obtain⟨b,o,rfl,hbB,hc⟩:=(Hs.out.later HBw.out).2 (by omega);have hck:=hc k hlt;clear hc;by_cases h1:k=1
    · subst h1;have HP:=zh (H2.out hlt);have hsz1:=HZ.out 1;generalize r.getD 1 ByteArray.empty=s at *;rw[HN.out];go_wp2_with fail;go_roundw;case rel=>exact⟨2,by omega,.inl (by omega),by go_num,by rw[HP.out];congr 1;first | done | (apply ByteArray.ext;simp[ByteArray.data_append]),by unfold Hid;rw[HP.out];omega,HB.out⟩
      case measure=>simp[intOf];omega
    · have HP:=zh (HST.out k (by omega) hlt);have hk3:1<k:=by omega
      have hsz1:=HZ.out k;have HPS:Hid ((wH (r.take (k+1))).size=(wH (r.take k)).size+1+(r.getD k ByteArray.empty).size):=by unfold Hid;rw[HP.out,ByteArray.size_append,ByteArray.size_append];rfl
      have hz3:(wH (r.take k)).size≤1099512676352:=by have:=HSZ.out;omega
      generalize r.getD k ByteArray.empty=s at *;generalize wH (r.take k)=t at *;go_wp2_with fail;go_roundw;case rel=>exact⟨k+1,by omega,.inl (by omega),by go_num,by rw[HP.out],by have:=HSZ.out;unfold Hid;rw[HPS.out];omega,HB.out⟩
      case measure=>simp[intOf];omega
  · have HF:=zh (HE.out k (by omega));generalize wH (r.take k)=t at *;go_wp2_with fail;go_ret;exact⟨by rw[HF.out];rfl,HBw.out⟩
def zLD (d:ChgD) (w:World) (e:Ending) (w':World):Prop:=∃v,e=.returned (.agg #[.int .i64 d.kind,.string d.name,v,.string d.val])∧Own.SubO w' w.heap.size v d.subs∧Below w.heap.size w w'
theorem wQ {Z:World} {bs g n:Nat} (ss:List ByteArray) (cs:Array Value) (hg:Z.heap.size=g) (hb:bs≤g) (hn:ss.length=n) (hm:n≤1048576) (h:cs=wX ss):Own.SubO (Z.alloc (.cells cs 9)) bs (.slice (some ⟨g,0,none⟩) n n) ss:=by
 subst hg hn;exact zIK ss cs hb hm h
theorem yU {w w':World} {bs:Nat} {v:Value} {ss:List ByteArray} (h:Own.SubO w bs v ss) (hb:Below w.heap.size w w'):Own.SubO w' bs v ss:=Own.own_later h hb
theorem zKm {w:World} {bs g t:Nat} {v:Value} {ss:List ByteArray} {a0 a1 a2 a3:Value} (h:Own.SubO w bs v ss) (hB:Blk w g t #[a0,a1,a2,a3]) (ht:9≠t) (x0 x1 x2 x3:Value):Own.SubO ((((w.setCell ⟨g,0,none⟩ x0).setCell ⟨g,1,none⟩ x1).setCell ⟨g,2,none⟩ x2).setCell ⟨g,3,none⟩ x3) bs v ss :=
 (((h.setBlk hB ht).setBlk (hB.set_ 0 x0) ht).setBlk ((hB.set_ 0 x0).set_ 1 x1) ht).setBlk (((hB.set_ 0 x0).set_ 1 x1).set_ 2 x2) ht
theorem zEw {a w:World} {B g:Nat} (h:Below B a w) (hg:B≤g) (x0 x1 x2 x3:Value):Below B a ((((w.setCell ⟨g,0,none⟩ x0).setCell ⟨g,1,none⟩ x1).setCell ⟨g,2,none⟩ x2).setCell ⟨g,3,none⟩ x3) :=
 (((h.setCell (p:=⟨g,0,none⟩) hg _).setCell (p:=⟨g,1,none⟩) hg _).setCell (p:=⟨g,2,none⟩) hg _).setCell (p:=⟨g,3,none⟩) hg _
set_option maxRecDepth 100000 in
theorem zIf (b0 b1 b2 b3 r0:Value) (b:TableD) (r:List ByteArray) (w:World) (hb:TableR w w.heap.size b0 b1 b2 b3 b) (h:RowR w w.heap.size r0 r) (hsm:yH r) (hpos:0<r.length) :
 Calls Tryz.prog 89 #[.agg #[b0,b1,b2,b3],.agg #[r0]] w (zLD (zDr b.glob r) w):=by
 have HKP:=zh (fun W (hW:Below w.heap.size w W)=>zGH r0 r W (h.later hW) hsm);obtain⟨rfl,rfl,⟨A2,n2,p2,rfl,s2,k2⟩,⟨A3,n3,p3,rfl,s3,k3⟩⟩:=hb;obtain⟨A,n,c,rfl,hs,hnc⟩:=h;rw[hs.1]at hpos;obtain⟨rb,ro,rfl,hrb,hrc⟩:=hs.2 hpos;have hc0:=hrc 0 hpos;rw[Nat.add_zero]at hc0;have HR:Hid (zDr b.glob r=⟨1,b.glob,[rS,r.getD 0 ByteArray.empty],wH r⟩):=rfl;clear s2 s3 hs hrc hsm;generalize zDr b.glob r=R at *;generalize wH r=pk at *;generalize r.getD 0 ByteArray.empty=key at *;generalize b.name=nm at *;generalize b.glob=gl at *;obtain⟨WB,hWB⟩:∃WB,WB=((w.alloc (.cells #[.string nm,.string gl,.slice A2 n2 p2,.slice A3 n3 p3] 29)).alloc (.cells #[.slice (some ⟨rb,ro,none⟩) n c] 40)).alloc (.cells #[.int .i64 0,.string ⟨#[]⟩,.slice none 0 0,.string ⟨#[]⟩] 88):=⟨_,rfl⟩;have HB0:Hid (Below w.heap.size w WB):=by subst hWB;exact wJ w _ _ _
 have HTT:Hid (Blk WB w.heap.size 29 #[.string nm,.string gl,.slice A2 n2 p2,.slice A3 n3 p3]):=by subst hWB;exact zK0 _ _ _ _
 have HRR:Hid (Blk WB (w.heap.size+1) 40 #[.slice (some ⟨rb,ro,none⟩) n c]):=by subst hWB;exact uI _ _ _ _
 have HYY:Hid (Blk WB (w.heap.size+1+1) 88 #[.int .i64 0,.string ⟨#[]⟩,.slice none 0 0,.string ⟨#[]⟩]):=by subst hWB;exact zI0 _ _ _ _
 have hrb3:rb<WB.heap.size:=Nat.lt_of_lt_of_le hrb HB0.out.size;have hk0:=(HB0.out.cell (p:=⟨rb,ro,none⟩) hrb).trans hc0;have q1:=HTT.out.cell 1;have q2:=HRR.out.cell 0;have a1:=(HTT.out.alloc (.cells #[.string ⟨#[114]⟩,.string key] 9)).cell 1;have a2:=(HRR.out.alloc (.cells #[.string ⟨#[114]⟩,.string key] 9)).cell 0;have a3:=(World.cell?_alloc_some _ _ (.cells #[.string ⟨#[114]⟩,.string key] 9) (by rw[hk0];rfl)).trans hk0;have hwb:=HB0.out.size;have hwy:=HYY.out.lt;have hne1:w.heap.size+1+1≠rb:=by omega
 have hne0:w.heap.size+1+1≠w.heap.size:=by omega
 have hne2:w.heap.size+1+1≠w.heap.size+1:=by omega
 simp at q1 q2 a1 a2;clear hc0;go_enter Tryz.func89,Tryz.ntmps89;go_wp2_with fail;rw[←hWB];clear hWB
 go_region_held3 (fun w'=>w'.cell? ⟨w.heap.size,1,none⟩=some (.string gl)∧w'.cell? ⟨w.heap.size+1,0,none⟩=some (.slice (some ⟨rb,ro,none⟩) n c)∧w'.cell? ⟨rb,ro,none⟩=some (.string key))
  (first | with_reducible exact⟨q1,q2,hk0⟩ | with_reducible exact⟨a1,a2,a3⟩ | with_reducible exact⟨t1,t0,tk⟩ | go_keep) (first
    | (go_at_call 150
       with_reducible refine(HKP.out WB.drew ?_).mono ?_
       · exact HB0.out.drew
       rintro e w4 ⟨rfl,hb4'⟩;have hbW:=xC hb4';have HARM:Hid (w4=w4):=rfl;have HY4:=zh (HYY.out.later hbW HYY.out.lt);have ht4:=HTT.out.later hbW HTT.out.lt;have hr4:=HRR.out.later hbW HRR.out.lt;have t1:=ht4.cell 1;have t0:=hr4.cell 0;have tz:=ht4.lt;have rz:=hr4.lt;have tk:=(hbW.cell (p:=⟨rb,ro,none⟩) hrb3).trans hk0;have y0:=HY4.out.cell 0;have y1:=HY4.out.cell 1;have y2:=HY4.out.cell 2;have y3:=HY4.out.cell 3;have f0:=HY4.out.frozen 0;have f1:=HY4.out.frozen 1;have f2:=HY4.out.frozen 2;have f3:=HY4.out.frozen 3;have z4:=HY4.out.lt;simp at t1 t0 y0 y1 y2 y3;have rz4:rb<w4.heap.size:=Nat.lt_of_lt_of_le hrb3 hbW.size;have HBX:=zh (HB0.out.later hbW);have hwz:=HBX.out.size
       clear hbW hb4' ht4 hr4)
    | (go_at_call 150
       with_reducible refine(HKP.out (WB.alloc (.cells #[.string ⟨#[114]⟩,.string key] 9)).drew ?_).mono ?_
       · exact(HB0.out.later (Below.new _ _)).drew
       rintro e w4 ⟨rfl,hb4'⟩;have hb4:=xC hb4';have hbW:=(Below.new WB (.cells #[.string ⟨#[114]⟩,.string key] 9)).later hb4;have HSX:Hid (Own.SubO w4 w.heap.size (.slice (some ⟨WB.heap.size,0,none⟩) 2 2) [rS,key]):=yU (wQ [rS,key] _ rfl hwb rfl (by decide) rfl) hb4;have HY4:=zh (HYY.out.later hbW HYY.out.lt);have ht4:=HTT.out.later hbW HTT.out.lt;have hr4:=HRR.out.later hbW HRR.out.lt;have t1:=ht4.cell 1;have t0:=hr4.cell 0;have tz:=ht4.lt;have rz:=hr4.lt;have tk:=(hbW.cell (p:=⟨rb,ro,none⟩) hrb3).trans hk0;have y0:=HY4.out.cell 0;have y1:=HY4.out.cell 1;have y2:=HY4.out.cell 2;have y3:=HY4.out.cell 3;have f0:=HY4.out.frozen 0;have f1:=HY4.out.frozen 1;have f2:=HY4.out.frozen 2;have f3:=HY4.out.frozen 3;have z4:=HY4.out.lt;simp at t1 t0 y0 y1 y2 y3;have rz4:rb<w4.heap.size:=Nat.lt_of_lt_of_le hrb3 hbW.size;have HBX:=zh (HB0.out.later hbW);have hwz:=HBX.out.size
       clear hbW hb4 hb4' ht4 hr4))
 all_goals
  go_wp2_with fail;refine bodyPost_ret (v:=.agg #[.int .i64 1,.string gl,.slice (some ⟨_,0,none⟩) 2 2,.string pk]) (by simp[results,Tryz.results89,go_sem,World.cell?_alloc_lt,z4,y0,y1,y2,y3];try exact rfl) rfl ?_;refine⟨_,by rw[HR.out],?_,?_⟩
  · rw[HR.out]
    first
      | (have:=HARM.out
         exact wQ [rS,key] _ (by simp) hwz rfl (by decide) rfl)
      | exact zKm HSX.out HY4.out (by decide) _ _ _ _
  · first
      | (have:=HARM.out
         exact(zEw HBX.out (by omega) _ _ _ _).later (Below.new _ _))
      | exact zEw HBX.out (by omega) _ _ _ _
end Go.Proofs.YtfpcjhajjejpdaaGreatDoor
