import Derived.Test.YtlicffeicmoifaaGreatDoorZ00
import Derived.Test.YtlicffeicmoifaaGreatDoorZ01
import Derived.Test.YtlicffeicmoifaaGreatDoorZ02
import Derived.Test.YtlicffeicmoifaaGreatDoorZ03
import Derived.Test.YtlicffeicmoifaaGreatDoorZ04
import Derived.Test.YtlicffeicmoifaaGreatDoorZ05
import Derived.Test.YtlicffeicmoifaaGreatDoorZ06
import Derived.Test.YtlicffeicmoifaaGreatDoorZ07
import Derived.Test.YtlicffeicmoifaaGreatDoorZ08
import Derived.Test.YtlicffeicmoifaaGreatDoorZ09
import Derived.Test.YtlicffeicmoifaaGreatDoorZ10
import Derived.Test.YtlicffeicmoifaaGreatDoorZ11
import Derived.Test.YtlicffeicmoifaaGreatDoorZ12
import Derived.Test.YtlicffeicmoifaaGreatDoorZ13
import Derived.Test.YtlicffeicmoifaaGreatDoorZ14
import Derived.Test.YtlicffeicmoifaaGreatDoorZ15
import Derived.Test.YtlicffeicmoifaaGreatDoorZ16
import Derived.Test.YtlicffeicmoifaaGreatDoorZ17
import Derived.Test.YtlicffeicmoifaaGreatDoorZ18
import Derived.Test.YtlicffeicmoifaaGreatDoorZ19
import Derived.Test.YtlicffeicmoifaaGreatDoorZ20
import Derived.Test.YtlicffeicmoifaaGreatDoorZ21
import Derived.Test.YtlicffeicmoifaaGreatDoorZ22
import Derived.Test.YtlicffeicmoifaaGreatDoorZ23
import Derived.Test.YtlicffeicmoifaaGreatDoorZ24
import Derived.Test.YtlicffeicmoifaaGreatDoorZ25
import Derived.Test.YtlicffeicmoifaaGreatDoorZ26
import Derived.Test.YtlicffeicmoifaaGreatDoorZ27
import Derived.Test.YtlicffeicmoifaaGreatDoorZ28
import Derived.Test.YtlicffeicmoifaaGreatDoorZ29
import Derived.Test.YtlicffeicmoifaaGreatDoorZ30
import Derived.Test.YtlicffeicmoifaaGreatDoorZ31
import Derived.Test.YtlicffeicmoifaaGreatDoorZ32
import Derived.Test.YtlicffeicmoifaaGreatDoorZ33
import Derived.Test.YtlicffeicmoifaaGreatDoorZ34
import Derived.Test.YtlicffeicmoifaaGreatDoorZ35
import Derived.Test.YtlicffeicmoifaaGreatDoorZ36
import Derived.Test.YtlicffeicmoifaaGreatDoorZ37
import Derived.Test.YtlicffeicmoifaaGreatDoorZ38
import Derived.Test.YtlicffeicmoifaaGreatDoorZ39
import Derived.Test.YtlicffeicmoifaaGreatDoorZ40
import Derived.Test.YtlicffeicmoifaaGreatDoorZ41
import Derived.Test.YtlicffeicmoifaaGreatDoorZ42
import Derived.Test.YtlicffeicmoifaaGreatDoorProg
import Derived.Test.YtlicffeicmoifaaGreatDoorY04
import Derived.Test.YtlicffeicmoifaaGreatDoorY00
import Derived.Ground.Names2Prog
import Derived.Ground.SlgnProg
import Derived.Shelf.LaysM
import Derived.Shelf.Slices.Cells
import Derived.Shelf.Slices.Clone
import Derived.Shelf.Slices.CompactS
import Derived.Shelf.Slices.Empties2
import Derived.Shelf.Slices.Equal
import Derived.Shelf.Slices.In.SortNone
import Derived.Shelf.SlicesE.Clone
import Derived.Shelf.SlicesE.Delete
import Derived.Shelf.SlicesG.Cells
import Derived.Shelf.SlicesG.CompactI
import Derived.Shelf.SlicesG.Delete
import Derived.Shelf.SlicesG.SearchI
import Derived.Shelf.SlicesG.Turned
import Derived.Shelf.Small.Bits
import Derived.Shelf.Small.Strs
import Derived.Shelf.Small.Utf8
import Derived.Shelf.Small.Wraps
import Derived.Shelf.Sort.Plain
import Derived.Shelf.SortG.Plain
import Derived.Shelf.SortG.SortNone
import Derived.Shelf.Strconv.Itoa0
import Derived.Shelf.Strconv.Itoa1
import Derived.Shelf.Strconv.Itoa2
import Derived.Shelf.Strconv.Itoa3
import Derived.Shelf.Strconv.Itoa4
import Derived.Shelf.Strings.AsciiSet
import Derived.Shelf.Strings.Builder1
import Derived.Shelf.Strings.Builder2
import Derived.Shelf.Strings.Builder2Cap
import Derived.Shelf.Strings.BuilderF
import Derived.Shelf.Strings.Count
import Derived.Shelf.Strings.Prefix
import Derived.Shelf.Strings.Replace
import Derived.Shelf.Strings.RuneCount
import Derived.Shelf.Strings.Runes
import Derived.Shelf.Strings.Search1
import Derived.Shelf.Strings.Search2
import Derived.Shelf.Strings.Search3
import Derived.Shelf.Strings.Shaped
import Derived.Shelf.Strings.Split
import Derived.Shelf.Strings.SplitShaped
import Derived.Shelf.Strings.Trim
import Derived.Shelf.Unicode.Decode
import Derived.Shelf.Unicode.DecodeAny
import Derived.Shelf.Unicode.DecodeLast
import Derived.Shelf.Unicode.DecodeSlow
import Derived.Shelf.Utf8.RuneCount
import Derived.BigQuiet
import Derived.Deep.AppendLies
import Derived.Deep.CutBlock
import Derived.Deep.DeepCutAuto
import Derived.Deep.QuietTactic
import Derived.Deep.RegionHeld3
import Derived.Deep.RegionLaw
import Derived.Deep.RegionWith
import Derived.IntWalk
import Derived.Laws.CopyOwn
import Derived.Laws.CopyRow
import Derived.Laws.IdiomStrings
import Derived.Laws.OwnMore
import Derived.Lib.AppendIntMem
import Derived.Lib.BufferWrite
import Derived.Lib.Hide
import Derived.Lib.IndexAny
import Derived.Lib.IndexBytes
import Derived.Lib.ItoaNum
import Derived.Lib.Join
import Derived.Lib.OwnBridge
import Derived.Lib.SlTrimSet
import Derived.Lib.SliceRun
import Derived.Lib.SplitLaws
import Derived.Lib.Strings
import Derived.Lib.TrimUEq
import Derived.LoopIn
import Derived.LoopNIn
import Derived.Maps.AppendAt
import Derived.OwnWalk
import Derived.OwnWalkIn
import Derived.RangeFuncBox
import Derived.RangeFuncLeaves
import Derived.RegionTactic
import Derived.Shelf.Abstract
import Derived.Shelf.GgClosure.StringsIndexFuncTop
import Derived.Shelf.Strings.OnBuilder
import Derived.Shelf.Strings.SlTrimAscii
import Derived.Shelf.Unicode.PredsPay
import Derived.TacticsInMore
import Derived.WalkKit
import Derived.WalkLawsBesides
import Derived.WalkSpells
set_option linter.unusedSimpArgs false
namespace Go.Proofs
open Go.Shelf
def Tryz.laysSlN43_f123_ren:Go.Shelf.Ren:=⟨fun | 43=>123 | n=>n,fun | 22=>40 | 23=>2 | 3=>3 | 4=>4 | 0=>0 | n=>n,fun | n=>n⟩
theorem Tryz.laysSlN43_f123:Go.Proofs.SlLaysN.n43 Tryz.prog Tryz.laysSlN43_f123_ren:={
 mixed:=by kernel_rfl
 f43:=⟨Tryz.f123.name,by decide,Tryz.func123.trans (congrArg some (by kernel_rfl))⟩
 t0:=Tryz.underlying0
 a0:=Tryz.isAgg0
 z0:=Tryz.sizeOf0
 v0:=Tryz.zeroValue0
 t3:=Tryz.underlying3
 a3:=Tryz.isAgg3
 z3:=Tryz.sizeOf3
 v3:=Tryz.zeroValue3
 t4:=Tryz.underlying4
 a4:=Tryz.isAgg4
 z4:=Tryz.sizeOf4
 v4:=Tryz.zeroValue4
 t22:=Tryz.underlying40
 a22:=Tryz.isAgg40
 z22:=Tryz.sizeOf40
 v22:=Tryz.zeroValue40
 t23:=Tryz.underlying2
 a23:=Tryz.isAgg2
 z23:=Tryz.sizeOf2
 v23:=Tryz.zeroValue2
 i23:=by kernel_rfl }
open Go.RowKit Go.Lib Go.Sort in
theorem Tryz.slices_Compact_int (blk off cap:Nat) (zs:List Int) (w:World) (hH:Holds (Value.int .i64) w blk off zs.toArray) (hsz:zs.length≤9223372036854775807) (hcap:zs.length≤cap) :
 Calls Tryz.prog 123 #[.slice (some ⟨blk,off,none⟩) zs.length cap] w fun e w'=>e=.returned (.slice (some ⟨blk,off,none⟩) (Lib.compact zs).length cap)∧∃q,w'=putRow (Value.int .i64) (Sort.ahead w q) blk off (Lib.compact zs++List.replicate (zs.length-(Lib.compact zs).length) 0).toArray:=AnyG.slices_Compact_int Tryz.laysSlN43_f123 blk off cap zs w hH hsz hcap
open Go.RowKit Go.Lib Go.Sort in
theorem Tryz.slices_Compact_int_empty (a:Option Addr) (cap:Nat) (w:World) :
 Calls Tryz.prog 123 #[.slice a 0 cap] w fun e w'=>e=.returned (.slice a 0 cap)∧w'=w:=AnyG.slices_Compact_int_empty Tryz.laysSlN43_f123 a cap w
def Tryz.laysSlN45_f58_ren:Go.Shelf.Ren:=⟨fun | 45=>58 | n=>n,fun | 22=>40 | 23=>2 | 3=>3 | 4=>4 | 0=>0 | n=>n,fun | n=>n⟩
theorem Tryz.laysSlN45_f58:Go.Proofs.SlLaysN.n45 Tryz.prog Tryz.laysSlN45_f58_ren:={
 mixed:=by kernel_rfl
 f45:=⟨Tryz.f58.name,by decide,Tryz.func58.trans (congrArg some (by kernel_rfl))⟩
 t0:=Tryz.underlying0
 a0:=Tryz.isAgg0
 z0:=Tryz.sizeOf0
 v0:=Tryz.zeroValue0
 t3:=Tryz.underlying3
 a3:=Tryz.isAgg3
 z3:=Tryz.sizeOf3
 v3:=Tryz.zeroValue3
 t4:=Tryz.underlying4
 a4:=Tryz.isAgg4
 z4:=Tryz.sizeOf4
 v4:=Tryz.zeroValue4
 t22:=Tryz.underlying40
 a22:=Tryz.isAgg40
 z22:=Tryz.sizeOf40
 v22:=Tryz.zeroValue40
 t23:=Tryz.underlying2
 a23:=Tryz.isAgg2
 z23:=Tryz.sizeOf2
 v23:=Tryz.zeroValue2
 i23:=by kernel_rfl }
open Go.RowKit Go.Lib Go.Sort in
theorem Tryz.slices_Delete_int (blk off cap i j:Nat) (zs:List Int) (w:World) (hH:Holds (Value.int .i64) w blk off zs.toArray) (hcap:zs.length≤cap) (hm:cap≤9223372036854775807) (hij:i≤j) (hj:j≤zs.length) :
 Calls Tryz.prog 58 #[.slice (some ⟨blk,off,none⟩) zs.length cap,.int .i64 i,.int .i64 j] w fun e w'=>e=.returned (.slice (some ⟨blk,off,none⟩) (zs.length-(j-i)) cap)∧∃q,w'=putRow (Value.int .i64) (Sort.ahead w q) blk off (zs.take i++zs.drop j++List.replicate (j-i) 0).toArray:=AnyG.slices_Delete_int Tryz.laysSlN45_f58 blk off cap i j zs w hH hcap hm hij hj
def Tryz.laysSlN53_f122_ren:Go.Shelf.Ren:=⟨fun | 53=>122 | 64=>209 | 63=>211 | 78=>270 | 79=>271 | 70=>272 | 71=>273 | 72=>274 | 73=>275 | 74=>276 | 75=>277 | 59=>278 | 76=>279 | 77=>280 | 88=>314 | 89=>310 | 90=>311 | 91=>315 | 92=>316 | 68=>210 | 96=>334 | n=>n,fun | 22=>40 | 23=>2 | 3=>3 | 51=>201 | 0=>0 | 67=>243 | 69=>122 | 4=>4 | 61=>237 | 60=>236 | 44=>118 | 5=>5 | 9=>9 | 75=>271 | 79=>275 | 83=>291 | 84=>292 | n=>n,fun | n=>n⟩
theorem Tryz.laysSlN53_f122:Go.Proofs.SlLaysN.n53 Tryz.prog Tryz.laysSlN53_f122_ren:={
 mixed:=by kernel_rfl
 f53:=⟨Tryz.f122.name,by decide,Tryz.func122.trans (congrArg some (by kernel_rfl))⟩
 f59:=⟨Tryz.f278.name,by decide,Tryz.func278.trans (congrArg some (by kernel_rfl))⟩
 f63:=⟨Tryz.f211.name,by decide,Tryz.func211.trans (congrArg some (by kernel_rfl))⟩
 f64:=Tryz.func209.trans (congrArg some (by kernel_rfl))
 f68:=⟨Tryz.f210.name,by decide,Tryz.func210.trans (congrArg some (by kernel_rfl))⟩
 f70:=⟨Tryz.f272.name,by decide,Tryz.func272.trans (congrArg some (by kernel_rfl))⟩
 f71:=⟨Tryz.f273.name,by decide,Tryz.func273.trans (congrArg some (by kernel_rfl))⟩
 f72:=⟨Tryz.f274.name,by decide,Tryz.func274.trans (congrArg some (by kernel_rfl))⟩
 f73:=⟨Tryz.f275.name,by decide,Tryz.func275.trans (congrArg some (by kernel_rfl))⟩
 f74:=⟨Tryz.f276.name,by decide,Tryz.func276.trans (congrArg some (by kernel_rfl))⟩
 f75:=⟨Tryz.f277.name,by decide,Tryz.func277.trans (congrArg some (by kernel_rfl))⟩
 f76:=⟨Tryz.f279.name,by decide,Tryz.func279.trans (congrArg some (by kernel_rfl))⟩
 f77:=⟨Tryz.f280.name,by decide,Tryz.func280.trans (congrArg some (by kernel_rfl))⟩
 f78:=Tryz.func270.trans (congrArg some (by kernel_rfl))
 f79:=Tryz.func271.trans (congrArg some (by kernel_rfl))
 f88:=⟨Tryz.f314.name,by decide,Tryz.func314.trans (congrArg some (by kernel_rfl))⟩
 f89:=Tryz.func310.trans (congrArg some (by kernel_rfl))
 f90:=Tryz.func311.trans (congrArg some (by kernel_rfl))
 f91:=⟨Tryz.f315.name,by decide,Tryz.func315.trans (congrArg some (by kernel_rfl))⟩
 f92:=⟨Tryz.f316.name,by decide,Tryz.func316.trans (congrArg some (by kernel_rfl))⟩
 f96:=⟨Tryz.f334.name,by decide,Tryz.func334.trans (congrArg some (by kernel_rfl))⟩
 t0:=Tryz.underlying0
 a0:=Tryz.isAgg0
 z0:=Tryz.sizeOf0
 v0:=Tryz.zeroValue0
 t3:=Tryz.underlying3
 a3:=Tryz.isAgg3
 z3:=Tryz.sizeOf3
 v3:=Tryz.zeroValue3
 t4:=Tryz.underlying4
 a4:=Tryz.isAgg4
 z4:=Tryz.sizeOf4
 v4:=Tryz.zeroValue4
 t5:=Tryz.underlying5
 a5:=Tryz.isAgg5
 z5:=Tryz.sizeOf5
 v5:=Tryz.zeroValue5
 t9:=Tryz.underlying9
 a9:=Tryz.isAgg9
 z9:=Tryz.sizeOf9
 v9:=Tryz.zeroValue9
 t22:=Tryz.underlying40
 a22:=Tryz.isAgg40
 z22:=Tryz.sizeOf40
 v22:=Tryz.zeroValue40
 t23:=Tryz.underlying2
 a23:=Tryz.isAgg2
 z23:=Tryz.sizeOf2
 v23:=Tryz.zeroValue2
 t44:=Tryz.underlying118
 a44:=Tryz.isAgg118
 z44:=Tryz.sizeOf118
 v44:=Tryz.zeroValue118
 t51:=Tryz.underlying201
 a51:=Tryz.isAgg201
 z51:=Tryz.sizeOf201
 v51:=Tryz.zeroValue201
 t60:=Tryz.underlying236
 a60:=Tryz.isAgg236
 z60:=Tryz.sizeOf236
 v60:=Tryz.zeroValue236
 t61:=Tryz.underlying237
 a61:=Tryz.isAgg237
 z61:=Tryz.sizeOf237
 v61:=Tryz.zeroValue237
 t67:=Tryz.underlying243
 a67:=Tryz.isAgg243
 z67:=Tryz.sizeOf243
 v67:=Tryz.zeroValue243
 t69:=Tryz.underlying122
 a69:=Tryz.isAgg122
 z69:=Tryz.sizeOf122
 v69:=Tryz.zeroValue122
 t75:=Tryz.underlying271
 a75:=Tryz.isAgg271
 z75:=Tryz.sizeOf271
 v75:=Tryz.zeroValue271
 t79:=Tryz.underlying275
 a79:=Tryz.isAgg275
 z79:=Tryz.sizeOf275
 v79:=Tryz.zeroValue275
 t83:=Tryz.underlying291
 a83:=Tryz.isAgg291
 z83:=Tryz.sizeOf291
 v83:=Tryz.zeroValue291
 t84:=Tryz.underlying292
 a84:=Tryz.isAgg292
 z84:=Tryz.sizeOf292
 v84:=Tryz.zeroValue292 }
open Go.RowKit Go.Lib Go.Sort in
theorem Tryz.slices_Sort_int (blk off cap:Nat) (zs:List Int) (w:World) (hH:Holds (Value.int .i64) w blk off zs.toArray) (hblk:blk<w.heap.size) (hsz:zs.length<4611686018427387904) :
 Calls Tryz.prog 122 #[.slice (some ⟨blk,off,none⟩) zs.length cap] w fun e w'=>e=.returned (.tuple #[])∧∃n os,w'=grow (putRow (Value.int .i64) (Sort.ahead w n) blk off (zs.mergeSort fun x y=>decide (x≤y)).toArray) os:=AnyG.slices_Sort_int Tryz.laysSlN53_f122 blk off cap zs w hH hblk hsz
open Go.RowKit Go.Lib Go.Sort in
theorem Tryz.slices_Sort_int_none (p:Option Addr) (cap:Nat) (w:World) :
 Calls Tryz.prog 122 #[.slice p 0 cap] w fun e w'=>e=.returned (.tuple #[])∧w'=w:=AnyG.slices_Sort_int_none Tryz.laysSlN53_f122 p cap w
end Go.Proofs
set_option maxHeartbeats 16000000
open Go.Lib renaming hid → zh
namespace Go.Proofs.YtlicffeicmoifaaGreatDoor
open Go.RowKit
set_option linter.unusedVariables false
set_option linter.unusedSimpArgs false
theorem below_growE (w:World) (os:Array Obj):Below w.heap.size w (Sort.grow w os):=Lib.below_grow w.heap.size w (Nat.le_refl _) 0 os
theorem slice_nil_decE (v:Value) (A:Option Addr) (n c:Nat) (h:v=.slice A n c) (hn:0<n):v≠.slice none 0 0:=by
 rw[h];intro e;injection e with _ e _;omega
theorem sorted_pwI (l:List Int):(l.mergeSort fun x y=>decide (x≤y)).Pairwise (·≤·):=by
 have h:=List.pairwise_mergeSort (le:=fun x y:Int=>decide (x≤y)) (fun a b c h1 h2=>by simp only[decide_eq_true_eq]at *;omega) (fun a b=>by simp only[Bool.or_eq_true,decide_eq_true_eq];omega) l;exact h.imp fun {a b} hab=>by simpa using hab
def SortE (base:Nat) (v:Value) (zs:List Int) (w:World) (e:Ending) (w':World):Prop:=e=.returned (.tuple #[])∧w'.ownsRow base 2 1 v zs.length ((zs.mergeSort fun x y=>decide (x≤y)).map (Value.int .i64))∧Below base w w'
theorem sortE_any (base:Nat) (v:Value) (zs:List Int) (w:World) (h:w.ownsRow base 2 1 v zs.length (zs.map (Value.int .i64))) (hBw:base≤w.heap.size) (hz:zs.length≤2097152) :
 Calls Tryz.prog 122 #[v] w (SortE base v zs w):=by
 rcases Nat.eq_zero_or_pos zs.length with h0 | h0
 · obtain⟨A,cap,rfl,_⟩:=Own.own_slice h;have hz0:zs=[]:=List.eq_nil_of_length_eq_zero h0;subst hz0;exact(Tryz.slices_Sort_int_none A cap w).mono fun e w' ⟨he,hw⟩=>⟨he,by subst hw;simpa using h,hw ▸ Below.refl _ _⟩
 · obtain⟨A,c,hv,_⟩:=Own.own_slice h;obtain⟨g,cap,rfl,hbg,hlt,hcap,hm,_,hH⟩:=Lib.holds_of_ownsRow h (slice_nil_decE v A _ c hv h0);refine(Tryz.slices_Sort_int g 0 cap zs w hH hlt (by omega)).mono fun e w' ⟨he,n,os,hw⟩=>⟨he,?_,?_⟩
   · have h1:=Lib.ownsRow_putRow (q:=n) (k:=zs.length) (ys:=zs.mergeSort fun x y=>decide (x≤y)) h (by simp) (Nat.le_refl _);rw[List.take_of_length_le (by simp)]at h1;rw[hw];exact Own.own_later h1 (below_growE _ os)
   · rw[hw];have h2:Below base w (Sort.putRow (Value.int .i64) (Sort.ahead w n) g 0 (zs.mergeSort fun x y=>decide (x≤y)).toArray):=Lib.below_putRow (Below.refl base w) (by omega);exact h2.trans ((below_growE _ os).mono (by have:=h2.size;omega))
theorem compact_le {α:Type} [Inhabited α] [DecidableEq α] (zs:List α):(Lib.compact zs).length≤zs.length:=by
 unfold Lib.compact Lib.compactUpTo;rw[List.length_map];have:=List.length_filter_le (Lib.keeps zs.toArray) (List.range zs.length);simpa using this
def CompE (base:Nat) (zs:List Int) (w:World) (e:Ending) (w':World):Prop:=∃v,e=.returned v∧w'.ownsRow base 2 1 v (Lib.compact zs).length ((Lib.compact zs).map (Value.int .i64))∧Below base w w'
theorem compE_any (base:Nat) (v:Value) (zs:List Int) (w:World) (h:w.ownsRow base 2 1 v zs.length (zs.map (Value.int .i64))) (hz:zs.length≤2097152) :
 Calls Tryz.prog 123 #[v] w (CompE base zs w):=by
 rcases Nat.eq_zero_or_pos zs.length with h0 | h0
 · obtain⟨A,cap,rfl,_⟩:=Own.own_slice h;have hz0:zs=[]:=List.eq_nil_of_length_eq_zero h0;subst hz0;exact(Tryz.slices_Compact_int_empty A cap w).mono fun e w' ⟨he,hw⟩=>⟨_,he,hw ▸ h,hw ▸ Below.refl _ _⟩
 · obtain⟨A,c,hv,_⟩:=Own.own_slice h;obtain⟨g,cap,rfl,hbg,hlt,hcap,hm,_,hH⟩:=Lib.holds_of_ownsRow h (slice_nil_decE v A _ c hv h0);refine(Tryz.slices_Compact_int g 0 cap zs w hH (by omega) hcap).mono fun e w' ⟨he,q,hw⟩=>⟨_,he,?_,?_⟩
   · have hl:=compact_le zs;have h1:=Lib.ownsRow_putRow (q:=q) (k:=(Lib.compact zs).length) (ys:=Lib.compact zs++List.replicate (zs.length-(Lib.compact zs).length) 0) h (by simp;omega) hl;rw[List.take_left' rfl]at h1;rw[hw];exact h1
   · rw[hw];exact Lib.below_putRow (Below.refl base w) (by omega)
theorem grown_putRow {α:Type} [Inhabited α] {enc:α→Value} {w:World} {g q:Nat} {d:Array α}:w.grownBy (Sort.putRow enc (Sort.ahead w q) g 0 d) (some g) :=
 ⟨rfl,rfl,rfl,by simp[Sort.putRow,Sort.mapBlock,Sort.ahead],fun k hk hne=>by
   have:g≠k:=fun e=>hne (by rw[e])
   simp[Sort.putRow,Sort.mapBlock,Sort.ahead,Array.getElem?_modify,this]⟩
def DelE (base:Nat) (zs:List Int) (v:Value) (w:World) (e:Ending) (w':World):Prop:=∃v',e=.returned v'∧v'.ownBlock=v.ownBlock∧w'.ownsRow base 2 1 v' zs.length (zs.map (Value.int .i64))∧w.grownBy w' v.ownBlock
theorem delE_any (base:Nat) (v:Value) (zs:List Int) (j:Nat) (w:World) (h:w.ownsRow base 2 1 v zs.length (zs.map (Value.int .i64))) (hz:zs.length≤2097152) (hj:j<zs.length) :
 Calls Tryz.prog 58 #[v,.int .i64 j,.int .i64 ((j:Int)+1)] w (DelE base (zs.take j++zs.drop (j+1)) v w):=by
 obtain⟨A,c,hv,_,hcm,_⟩:=Own.own_slice h;obtain⟨g,cap,rfl,hbg,hlt,hcap,hm,_,hH⟩:=Lib.holds_of_ownsRow h (slice_nil_decE v A _ c hv (by omega));have hK:=Tryz.slices_Delete_int g 0 cap j (j+1) zs w hH hcap (by unfold maxLen at hm;omega) (by omega) (by omega);have hK2:Calls Tryz.prog 58 #[.slice (some ⟨g,0,none⟩) zs.length cap,.int .i64 j,.int .i64 ((j:Int)+1)] w _:=hK;refine hK2.mono fun e w' ⟨he,q,hw⟩=>⟨_,he,rfl,?_,?_⟩
 · have hl:(zs.take j++zs.drop (j+1)).length=zs.length-1:=by simp;omega
   have h1:=Lib.ownsRow_putRow (q:=q) (k:=zs.length-1) (ys:=zs.take j++zs.drop (j+1)++List.replicate (j+1-j) 0) h (by simp;omega) (by omega);rw[List.take_left' hl]at h1;rw[hw,hl,show zs.length-(j+1-j)=zs.length-1 by omega];exact h1
 · rw[hw];exact grown_putRow
theorem jobsOf_any (A:Option Addr) (n c:Nat) (l:List DoD) (w:World) (h:Dos w w.heap.size A n l) (hn:n≤60) :
 Calls Tryz.prog 52 #[.slice A n c] w (IntsPost (jobsJ l) w):=by
 obtain⟨i0,hi,hz0,hz1,hz2⟩:=info_parts infoI64;have HEV:=zh h;have HL:=zh h.1;clear h;go_enter Tryz.func52,Tryz.ntmps52;go_wp2_with fail;go_loopw [3,9] (fun v i wr=>∃(k:Nat),k≤n∧i=.int .i64 k∧wr.ownsRow w.heap.size 2 1 v k (((l.take k).map DoD.job).map (Value.int .i64))∧Below w.heap.size w wr) (fun _ i _=>n-(intOf i).toNat);case atStart=>exact⟨0,Nat.zero_le _,rfl,World.ownsRow_lit _ _ 0 (Nat.le_refl _) (by omega) rfl,Below.new _ _⟩
 case round =>
  obtain⟨k,hk,rfl,hown,hb⟩:=hrel;have HO:=zh hown;have HB:=zh hb;clear hown hb;by_cases hlt:k<n
  · obtain⟨b,o,S,m,q,rfl,hat⟩:=dos_at HEV.out hlt;obtain⟨⟨k0,k1,k2,k3,k4,k5⟩,_⟩:=hat wr HB.out;have hl:k<l.length:=by rw[HL.out];exact hlt
    have HS:Hid ((l.take (k+1)).map DoD.job=(l.take k).map DoD.job++[(l.getD k default).job]):=by unfold Hid;rw[List.take_succ_eq_append_getElem hl,List.map_append,List.getD_eq_getElem?_getD,List.getElem?_eq_getElem hl];rfl
    clear hl hat
    generalize l.getD k default=d at *;generalize (l.take k).map DoD.job=js at *;have hki:(k:Int)<(n:Int):=by omega
    have hbz:=HB.out.size;have hrow:Hid (∀o o',((wr.alloc o).alloc o').ownsRow w.heap.size 2 1 u3 k (js.map (Value.int .i64))):=fun o o'=>Own.own_later (Own.own_later HO.out (Below.new _ _)) (Below.new _ _);have HBA:Hid (∀o o',Below w.heap.size w ((wr.alloc o).alloc o')):=fun o o'=>(HB.out.later (Below.new _ _)).later (Below.new _ _);go_wp2_with (at_builtin;refine wpList_append_own _ rfl (.tmp 13) (.tmp 16) 40 rfl w.heap.size 2 i0 _ 1 8 Tryz.underlying40 hi hz0 hz1 hz2 rfl (by decide) _ k _ rfl (hrow.out _ _) ⟨_,0,none⟩ 1 1 [.int .i64 d.job] rfl rfl ?c1 ?c2 ?c3 ?c4 ?c5 ?_);case c1=>exact cells_newG (cs:=#[.int .i64 d.job]) (by simp)
    case c2=>simp[Value.oneCell']
    case c3=>unfold maxLen;omega
    case c4=>omega
    case c5=>first | omega | (simp;omega)
    intro v1 w2 hown1 hg1 _;have HBN:=zh (below_own (w0:=w) (HBA.out _ _) (hrow.out _ _) (Nat.le_refl _) hg1);have HON:Hid (w2.ownsRow w.heap.size 2 1 v1 (k+1) (((l.take (k+1)).map DoD.job).map (Value.int .i64))):=by unfold Hid;rw[HS.out,List.map_append];exact hown1
    clear hown1 hg1;go_wp2_with fail;go_roundw;case rel=>exact⟨k+1,by omega,by go_num,HON.out,HBN.out⟩
    case measure=>simp[intOf];omega
  · obtain rfl:k=n:=by omega
    have HE:Hid (l.take k=l):=List.take_of_length_le (by rw[HL.out];exact Nat.le_refl _);have HO1:Hid (wr.ownsRow w.heap.size 2 1 u3 (l.map DoD.job).length ((l.map DoD.job).map (Value.int .i64))):=by have h:=HO.out;rw[HE.out]at h;unfold Hid;rw[List.length_map,HL.out];exact h
    have hbz:=HB.out.size;have hjl:(l.map DoD.job).length=k:=by rw[List.length_map,HL.out]
    have HJC:=zh (jobs_compact (l:=l) (L:=(l.map DoD.job).mergeSort fun x y=>decide (x≤y)) (List.mergeSort_perm _ _) (sorted_pwI _));have HKS:=zh (sortE_any w.heap.size u3 (l.map DoD.job) wr HO1.out hbz (by omega));have hki:¬(k:Int)<(k:Int):=by omega
    clear HO;generalize l.map DoD.job=js at *;go_wp2_with fail;refine HKS.out.mono ?_;rintro e w1 ⟨rfl,hown1,hb1⟩;have HB1:=zh (HB.out.trans hb1);have HKC:=zh (compE_any w.heap.size u3 (js.mergeSort fun x y=>decide (x≤y)) w1 (by rw[List.length_mergeSort];exact hown1) (by rw[List.length_mergeSort];omega));clear hown1 hb1 HKS HO1;go_wp2_with fail;refine HKC.out.mono ?_;rintro e w2 ⟨v2,rfl,hown2,hb2⟩;rw[HJC.out]at hown2;have HO2:=zh hown2;have HB2:=zh (HB1.out.trans hb2);obtain⟨A2,c2,rfl,_,_⟩:=own_ints hown2;clear hown2 hb2 HKC;go_wp2_with fail;go_ret;exact⟨_,rfl,HO2.out,HB2.out⟩
end Go.Proofs.YtlicffeicmoifaaGreatDoor
namespace Go.Proofs.YtlicffeicmoifaaGreatDoor
open Go.RowKit
set_option linter.unusedVariables false
set_option linter.unusedSimpArgs false
def EdgPost (l:List DoD) (w:World) (e:Ending) (w':World):Prop:=∃v rs,e=.returned v∧w'.ownsRow w.heap.size 48 2 v rs.length (edC rs)∧rs.length≤3600∧(∀z:Int × Int,z∈rs↔edgeE l z.1 z.2=true)∧Below w.heap.size w w'
theorem rawJ_step {l:List DoD} {k:Nat} (h:k<l.length):rawJ (l.take k) (l.drop k)=rawIn (l.getD k default) (l.take k)++rawJ (l.take (k+1)) (l.drop (k+1)):=by
 rw[List.drop_eq_getElem_cons h,List.take_succ_eq_append_getElem h,List.getD_eq_getElem?_getD,List.getElem?_eq_getElem h];rfl
theorem rawIn_step {l:List DoD} {b:DoD} {k j:Nat} (h:k≤l.length) (hj:j<k):rawIn b ((l.take k).drop j)=(if (decide ((l.getD j default).job≠b.job)&&confB (l.getD j default).ev b.ev)=true then ((l.getD j default).job,b.job)::rawIn b ((l.take k).drop (j+1)) else rawIn b ((l.take k).drop (j+1))):=by
 have hl:j<(l.take k).length:=by rw[List.length_take];omega
 rw[List.drop_eq_getElem_cons hl,List.getElem_take,List.getD_eq_getElem?_getD,List.getElem?_eq_getElem (by omega)];rfl
set_option maxRecDepth 100000 in
theorem edgesOf_any (A:Option Addr) (n c:Nat) (l:List DoD) (w:World) (htab:tabT w) (h:Dos w w.heap.size A n l) (hn:n≤60) (hnc:n≤c) (hok:okDs l) :
 Calls Tryz.prog 51 #[.slice A n c] w (EdgPost l w):=by
 obtain⟨i0,hi,hz0,hz1,hz2⟩:=info_parts infoEdge;have HEV:=zh h;have HL:=zh h.1;have HOK:=zh hok.2;have HTT:=zh (fun W (hW:Below w.heap.size w W)=>tab_later htab hW);have HR0:Hid (rawJ [] l=[]++rawJ (l.take 0) (l.drop 0)):=by unfold Hid;rw[List.take_zero,List.drop_zero,List.nil_append]
 have HRM:Hid (∀z:Int × Int,z∈rawJ [] l↔edgeE l z.1 z.2=true):=fun z=>raw_edges;clear h hok htab;generalize rawJ [] l=RAW at *;go_enter Tryz.func51,Tryz.ntmps51;go_wp2_with fail;go_loopw [3,11] (fun v i wr=>∃(k:Nat) (es:List (Int × Int)),k≤n∧i=.int .i64 k∧wr.ownsRow w.heap.size 48 2 v es.length (edC es)∧v≠.slice none 0 0∧es.length≤60*k∧Hid (RAW=es++rawJ (l.take k) (l.drop k))∧Below w.heap.size w wr) (fun _ i _=>n-(intOf i).toNat);case atStart=>exact⟨0,[],Nat.zero_le _,rfl,World.ownsRow_lit _ _ 0 (Nat.le_refl _) (by omega) rfl,by simp,Nat.le_refl _,HR0.out,Below.new _ _⟩
 case round =>
  obtain⟨k,es,hk,rfl,hown,hvn,hel,HS,hb⟩:=hrel;obtain⟨wo,rfl⟩:∃wo,wo=wr:=⟨wr,rfl⟩;have HO:=zh hown;have HB:=zh hb;clear hown hb HR0;by_cases hlt:k<n
  · obtain⟨bb,o,Sb,mb,cb,rfl,hatb⟩:=dos_at HEV.out hlt;obtain⟨⟨b0,b1,b2,b3,b4,b5⟩,_⟩:=hatb wo HB.out;have hl:k<l.length:=by rw[HL.out];exact hlt
    have hbo:=HOK.out _ (getD_memQ l k hl);have HBO:=zh hbo;have HS2:Hid (RAW=es++(rawIn (l.getD k default) ((l.take k).drop 0)++rawJ (l.take (k+1)) (l.drop (k+1)))):=by unfold Hid;rw[HS.out,rawJ_step hl,List.drop_zero]
    have HRI:=zh (fun j (hj:j<k)=>rawIn_step (l:=l) (b:=l.getD k default) (k:=k) (j:=j) (Nat.le_of_lt hl) hj);have HATB:=zh hatb;generalize hRE:rawJ (l.take (k+1)) (l.drop (k+1))=REST at *;have HRE:=zh hRE;clear hRE;generalize hbd:l.getD k default=b at *;clear hbd;have hki:(k:Int)<(n:Int):=by omega
    have hkc:(k:Int)≤(c:Int):=by omega
    obtain⟨WB,hWB⟩:∃WB,WB=wo.alloc (.cells #[.int .i64 b.job,.int .i64 b.ev.kind,.string b.ev.name,.slice Sb mb cb,.string b.ev.val,.int .i64 b.ev.n] 39):=⟨_,rfl⟩;have HBX:Hid (Blk WB wo.heap.size 39 #[.int .i64 b.job,.int .i64 b.ev.kind,.string b.ev.name,.slice Sb mb cb,.string b.ev.val,.int .i64 b.ev.n]):=by subst hWB;exact heap_alloc_new _ _
    have HBB:Hid (Below w.heap.size w WB):=by subst hWB;exact HB.out.later (Below.new _ _)
    have HOB:Hid (WB.ownsRow w.heap.size 48 2 u3 es.length (edC es)):=by subst hWB;exact Own.own_later HO.out (Below.new _ _)
    have hwo:w.heap.size≤wo.heap.size:=HB.out.size;clear hl hbo hatb HS HO HB;go_wp2_with fail;rw[←hWB];clear hWB b0 b1 b2 b3 b4 b5;go_loopw [3,20] (fun v jv wx=>∃(j:Nat) (es:List (Int × Int)),j≤k∧jv=.int .i64 j∧wx.ownsRow w.heap.size 48 2 v es.length (edC es)∧v≠.slice none 0 0∧es.length≤60*k+j∧Hid (RAW=es++(rawIn b ((l.take k).drop j)++REST))∧Hid (Blk wx wo.heap.size 39 #[.int .i64 b.job,.int .i64 b.ev.kind,.string b.ev.name,.slice Sb mb cb,.string b.ev.val,.int .i64 b.ev.n])∧Below w.heap.size w wx) (fun _ jv _=>k-(intOf jv).toNat);case atStart=>exact⟨0,es,Nat.zero_le _,rfl,HOB.out,hvn,by omega,HS2.out,HBX.out,HBB.out⟩
    case round =>
     obtain⟨j,es,hj,rfl,hown,hvn2,hel,HS,HX,hb⟩:=hrel;obtain⟨wx,rfl⟩:∃wx,wx=wr:=⟨wr,rfl⟩;have HO:=zh hown;have HB:=zh hb;clear hown hb HOB HBX HBB HS2;by_cases hjlt:j<k
     · obtain⟨bb',o',Sa,ma,ca,he,hata⟩:=dos_at HEV.out (show j<n by omega);cases he;obtain⟨⟨a0,a1,a2,a3,a4,a5⟩,_⟩:=hata wx HB.out;have hl:j<l.length:=by rw[HL.out];omega
       have hao:=HOK.out _ (getD_memQ l j hl);have HST:=zh (HRI.out j hjlt);generalize l.getD j default=a at *;have hji:(j:Int)<(k:Int):=by omega
       obtain⟨WA,hWA⟩:∃WA,WA=wx.alloc (.cells #[.int .i64 a.job,.int .i64 a.ev.kind,.string a.ev.name,.slice Sa ma ca,.string a.ev.val,.int .i64 a.ev.n] 39):=⟨_,rfl⟩;have HAX:Hid (Blk WA wx.heap.size 39 #[.int .i64 a.job,.int .i64 a.ev.kind,.string a.ev.name,.slice Sa ma ca,.string a.ev.val,.int .i64 a.ev.n]):=by subst hWA;exact heap_alloc_new _ _
       have HBX2:Hid (Blk WA wo.heap.size 39 #[.int .i64 b.job,.int .i64 b.ev.kind,.string b.ev.name,.slice Sb mb cb,.string b.ev.val,.int .i64 b.ev.n]):=by subst hWA;exact HX.out.alloc _
       have HBA:Hid (Below w.heap.size w WA):=by subst hWA;exact HB.out.later (Below.new _ _)
       have HOA:Hid (WA.ownsRow w.heap.size 48 2 u3 es.length (edC es)):=by subst hWA;exact Own.own_later HO.out (Below.new _ _)
       have HKC:=zh (Conf_any _ _ _ _ _ _ _ _ _ _ a.ev b.ev WA (HTT.out _ HBA.out) (hata WA HBA.out).2 (HATB.out WA HBA.out).2 hao HBO.out);have hzx:wo.heap.size<wx.heap.size:=HX.out.lt;have y0:=HX.out.at 0 rfl;have y1:=HX.out.at 1 rfl;have y2:=HX.out.at 2 rfl;have y3:=HX.out.at 3 rfl;have y4:=HX.out.at 4 rfl;have y5:=HX.out.at 5 rfl;clear hl hao hata HO HB HX;generalize confB a.ev b.ev=cf at *;by_cases hjb:a.job=b.job
       · have hjd:decide (a.job≠b.job)=false:=decide_eq_false (fun hne=>hne hjb);have HS3:Hid (RAW=es++(rawIn b ((l.take k).drop (j+1))++REST)):=by unfold Hid;rw[HS.out,HST.out,hjd];rfl
         have hjq:(a.job != b.job)=false:=by rw[hjb];simp
         rw[hjb]at hWA;go_wp2_with fail;(try rw[←hWA]);clear hWA;(try go_wp2_with fail);go_roundw;case rel=>exact⟨j+1,es,by omega,by go_num,HOA.out,hvn2,by omega,HS3.out,HBX2.out,HBA.out⟩
         case measure=>simp[intOf];omega
       · have hjd:decide (a.job≠b.job)=true:=decide_eq_true hjb;have hjq:(a.job != b.job)=true:=by simpa using hjb
         have hjq2:(a.job==b.job)=false:=beq_eq_false_iff_ne.2 hjb;rw[hjd,Bool.true_and]at HST;cases cf
         · have HS3:Hid (RAW=es++(rawIn b ((l.take k).drop (j+1))++REST)):=by unfold Hid;rw[HS.out,HST.out];rfl
           go_wp2_with fail;(try rw[←hWA]);clear hWA;(try go_wp2_with fail);refine HKC.out.mono ?_;rintro e w1 ⟨rfl,hb1⟩;have HB1:=zh (HBA.out.later hb1);have HO1:=zh (Own.own_later HOA.out hb1);have HX1:=zh (HBX2.out.later hb1 HBX2.out.lt);clear hb1 y0 y1 y2 y3 y4 y5;go_wp2_with fail;go_roundw;case rel=>exact⟨j+1,es,by omega,by go_num,HO1.out,hvn2,by omega,HS3.out,HX1.out,HB1.out⟩
           case measure=>simp[intOf];omega
         · have HS3:Hid (RAW=(es++[(a.job,b.job)])++(rawIn b ((l.take k).drop (j+1))++REST)):=by unfold Hid;rw[HS.out,HST.out];simp
           go_wp2_with fail;(try rw[←hWA]);clear hWA;(try go_wp2_with fail);refine HKC.out.mono ?_;rintro e w1 ⟨rfl,hb1⟩;have HB1:=zh (HBA.out.later hb1);have HO1:=zh (Own.own_later HOA.out hb1);have HX1:=zh (HBX2.out.later hb1 HBX2.out.lt);have HA1:=zh (HAX.out.later hb1 HAX.out.lt);clear hb1 y0 y1 y2 y3 y4 y5;have x0:=HA1.out.at 0 rfl;have y0:=HX1.out.at 0 rfl;have hbz:=HB1.out.size;have hzq1:=HA1.out.lt;have hrow:Hid (∀o,(w1.alloc o).ownsRow w.heap.size 48 2 u3 es.length (edC es)):=fun o=>Own.own_later HO1.out (Below.new _ _);go_wp2_with (at_builtin;(refine wpList_append_own _ rfl (.tmp 36) (.tmp 42) 44 rfl w.heap.size 48 i0 _ 2 16 Tryz.underlying44 hi hz0 hz1 hz2 rfl (by decide) _ es.length _ rfl (hrow.out _) ⟨_,0,none⟩ 1 1 (edL (a.job,b.job)) rfl rfl ?c1 ?c2 ?c3 ?c4 ?c5 ?_));case c1=>exact cells_newN _ #[.int .i64 a.job,.int .i64 b.job] _
           case c2=>simp[Value.oneCell',edL]
           case c3=>unfold maxLen;omega
           case c4=>omega
           case c5=>first | omega | (simp;omega)
           intro v1 w2 hown1 hg1 hnn1;have HVN:Hid (v1≠.slice none 0 0):=by unfold Hid;simpa using hnn1
           clear hnn1;have HBN:=zh (below_own (w0:=w) (HB1.out.later (Below.new _ _)) (hrow.out _) (Nat.le_refl _) hg1);have HXN:=zh ((HX1.out.alloc (.cells #[.int .i64 a.job,.int .i64 b.job] 48)).grown hg1 (fun e=>Own.own_blk_ne (hrow.out (.cells #[.int .i64 a.job,.int .i64 b.job] 48)) (HX1.out.alloc (.cells #[.int .i64 a.job,.int .i64 b.job] 48)) (by decide) e.symm));have HON:Hid (w2.ownsRow w.heap.size 48 2 v1 (es++[(a.job,b.job)]).length (edC (es++[(a.job,b.job)]))):=by unfold Hid;rw[edC_snoc,List.length_append,List.length_singleton];exact hown1
           clear hown1 hg1;go_wp2_with fail;go_roundw;case rel=>exact⟨j+1,_,by omega,by go_num,HON.out,HVN.out,by simp;omega,HS3.out,HXN.out,HBN.out⟩
           case measure=>simp[intOf];omega
     · obtain rfl:j=k:=by omega
       have hji:¬(j:Int)<(j:Int):=by omega
       have HS3:Hid (RAW=es++REST):=by unfold Hid;rw[HS.out,List.drop_of_length_le (by rw[List.length_take];omega)];rfl
       go_wp2_with fail;go_roundw;case rel=>exact⟨j+1,es,by omega,by go_num,HO.out,hvn2,by omega,by rw[HRE.out];exact HS3.out,HB.out⟩
       case measure=>simp[intOf];omega
  · obtain rfl:k=n:=by omega
    have HE:Hid (RAW=es):=by unfold Hid;rw[HS.out,List.drop_of_length_le (by rw[HL.out];exact Nat.le_refl _)];simp[rawJ]
    have hbz:=HB.out.size;have HKS:=zh (SortEd_any w.heap.size u3 es wo HO.out hvn hbz (by omega));have hki:¬(k:Int)<(k:Int):=by omega
    go_wp2_with fail;refine HKS.out.mono ?_;rintro e w1 ⟨rfl,rs,hp,hown1,hb1⟩;have HB1:=zh (HB.out.trans hb1);have hpl:=hp.length_eq;have HP:=zh hp;have HKC:=zh (CompactEd_any w.heap.size u3 rs w1 hown1 (by omega) (by have:=HB1.out.size;omega));clear hown1 hb1 HKS hp HO;go_wp2_with fail;refine HKC.out.mono ?_;rintro e w2 ⟨v2,qs,rfl,hown2,hql,hqm,hb2⟩;have HO2:=zh hown2;have HB2:=zh (HB1.out.trans hb2);have HQ:Hid (∀z:Int × Int,z∈qs↔edgeE l z.1 z.2=true):=fun z=>by rw[hqm,HP.out.mem_iff,←HE.out];exact HRM.out z
    obtain⟨A2,c2,rfl,_,_⟩:=eds_own hown2;clear hown2 hb2 HKC hqm;go_wp2_with fail;go_ret;exact⟨_,qs,rfl,HO2.out,by omega,HQ.out,HB2.out⟩
end Go.Proofs.YtlicffeicmoifaaGreatDoor
namespace Go.Proofs.YtlicffeicmoifaaGreatDoor
open Go.RowKit
set_option linter.unusedVariables false
set_option linter.unusedSimpArgs false
theorem IndexI64_any (A:Option Addr) (n c:Nat) (zs:List Int) (x:Int) (w:World) (h:Ints w w.heap.size A n zs) (hn:n≤1048576) :
 Calls Tryz.prog 125 #[.slice A n c,.int .i64 x] w fun e w'=>e=.returned (.int .i64 (idxF (fun z=>decide (z=x)) zs 0))∧w'=w:=by
 have Hh:=zh h;have HL:=zh h.1;clear h;go_enter Tryz.func125,Tryz.ntmps125;go_wp2_with fail;go_loopw [8] (fun i wr=>∃k:Nat,k≤n∧i=.int .i64 k∧wr=w∧Hid (idxF (fun z=>decide (z=x)) zs 0=idxF (fun z=>decide (z=x)) (zs.drop k) k)) (fun i _=>n-(intOf i).toNat);case atStart=>exact⟨0,Nat.zero_le _,by first | rfl | trivial,by first | rfl | trivial,rfl⟩
 case round =>
  obtain⟨k,hk,rfl,rfl,hS⟩:=hrel;by_cases hlt:k<n
  · obtain⟨b,o,rfl,hbB,hc⟩:=Hh.out.2 (by omega);have k0:=hc k hlt;have hl:k<zs.length:=by rw[HL.out];exact hlt
    have HS:=zh (idxF_step (fun z=>decide (z=x)) zs k hl);have hgd:zs.getD k (0:Int)=zs.getD k default:=rfl;rw[hgd]at k0;clear hc hl hgd;generalize zs.getD k default=y at *;have hki:(k:Int)<(n:Int):=by omega
    by_cases hy:y=x
    · subst hy;have hyb:(y==y)=true:=by simp
      go_wp2_with fail;go_ret;exact⟨ret_int (by rw[hS.out,HS.out];simp),by first | rfl | trivial⟩
    · have hyb:(y==x)=false:=beq_eq_false_iff_ne.2 hy;have hyb2:(x==y)=false:=beq_eq_false_iff_ne.2 (fun e=>hy e.symm);have hd:decide (y=x)=false:=decide_eq_false hy;go_wp2_with fail;go_roundw;case rel=>exact⟨k+1,by omega,by go_num,by first | rfl | trivial,by unfold Hid;rw[hS.out,HS.out];simp[hy]⟩
      case measure=>simp[intOf];omega
  · have HE:Hid (idxF (fun z=>decide (z=x)) zs 0=-1):=by unfold Hid;rw[hS.out,List.drop_of_length_le (by rw[HL.out];omega)];rfl
    have hki:¬(k:Int)<(n:Int):=by omega
    go_wp2_with fail;go_ret;exact⟨ret_int HE.out.symm,by first | rfl | trivial⟩
theorem ContainsI64_any (A:Option Addr) (n c:Nat) (zs:List Int) (x:Int) (w:World) (h:Ints w w.heap.size A n zs) (hn:n≤1048576) :
 Calls Tryz.prog 57 #[.slice A n c,.int .i64 x] w fun e w'=>e=.returned (.bool (decide (x∈zs)))∧w'=w:=by
 have HK:=zh (IndexI64_any A n c zs x w h hn);have hE:=idxF_any (fun z=>decide (z=x)) zs 0;have hE2:(zs.any fun z=>decide (z=x))=decide (x∈zs):=by rw[Bool.eq_iff_iff,decide_eq_true_iff,List.any_eq_true];exact⟨fun ⟨z,hz,e⟩=>(of_decide_eq_true e) ▸ hz,fun hx=>⟨x,hx,decide_eq_true rfl⟩⟩
 rw[hE2]at hE;clear h hE2;generalize decide (x∈zs)=R at *;generalize idxF (fun z=>decide (z=x)) zs 0=y at *;have HE:=zh hE;clear hE;go_enter Tryz.func57,Tryz.ntmps57;go_wp2_with fail;refine HK.out.mono ?_;rintro e w' ⟨rfl,rfl⟩;go_wp2_with fail;go_ret;exact⟨ret_bool HE.out,by first | rfl | trivial⟩
def PredI64 (g:Nat) (lb:Array Value) (p:Int→Bool) (zs:List Int) (w:World):Prop :=
 ∀d∈zs,∀W,Below w.heap.size w W→Calls Tryz.prog g (#[.int .i64 d]++lb) W fun e w'=>e=.returned (.bool (p d))∧Below W.heap.size W w'
theorem IndexFuncI64_any (g:Nat) (lb:Array Value) (p:Int→Bool) (A:Option Addr) (n c:Nat) (zs:List Int) (w:World) (h:Ints w w.heap.size A n zs) (hn:n≤1048576)
 (eg:∀args w,(callFunc g args).run Tryz.prog w=.ok (.enter g args) w) (hg:PredI64 g lb p zs w) :
 Calls Tryz.prog 53 #[.slice A n c,.func (.func g) #[] lb] w fun e w'=>e=.returned (.int .i64 (idxF p zs 0))∧Below w.heap.size w w':=by
 have Hh:=zh h;have Hlen:=zh h.1;have Hg:=zh hg;clear h hg;go_enter Tryz.func53,Tryz.ntmps53;go_wp2_with fail;go_loopw [8] (fun i wr=>∃k:Nat,k≤n∧i=.int .i64 k∧Below w.heap.size w wr∧Hid (idxF p zs 0=idxF p (zs.drop k) k)) (fun i _=>n-(intOf i).toNat);case atStart=>exact⟨0,Nat.zero_le _,rfl,Below.refl _ _,rfl⟩
 case round =>
  obtain⟨k,hk,rfl,hb,hS⟩:=hrel;have HB:=zh hb;clear hb;by_cases hlt:k<n
  · obtain⟨b,o,rfl,hbB,hcell⟩:=(Hh.out.later HB.out).2 (by omega);have k0:=hcell k hlt;have hgd:zs.getD k (0:Int)=zs.getD k default:=rfl;rw[hgd]at k0;have hl:k<zs.length:=by rw[Hlen.out];exact hlt
    have HS:=zh (idxF_step p zs k hl);have HK:=zh (Hg.out (zs.getD k default) (getD_memQ zs k hl) wr HB.out);clear hl hcell hgd;generalize zs.getD k default=s at *;generalize hx:p s=x at *;have HX:=zh hx;clear hx;go_wp2_with fail;refine HK.out.mono ?_;rintro e w' ⟨rfl,hb1⟩;have HB1:=zh (HB.out.later hb1);clear hb1;cases x
    · go_wp2_with fail;go_roundw;case rel=>exact⟨k+1,by omega,by go_num,HB1.out,by unfold Hid;rw[hS.out,HS.out];rfl⟩
      case measure=>simp[intOf];omega
    · go_wp2_with fail;go_ret;exact⟨ret_int (by rw[hS.out,HS.out];rfl),HB1.out⟩
  · have HE:Hid (idxF p zs 0=-1):=by unfold Hid;rw[hS.out,List.drop_of_length_le (by rw[Hlen.out];omega)];rfl
    go_wp2_with fail;go_ret;exact⟨ret_int HE.out.symm,HB.out⟩
def PredEdge (g:Nat) (lb:Array Value) (p:Int × Int→Bool) (fs:List (Int × Int)) (w:World):Prop :=
 ∀d∈fs,∀W,Below w.heap.size w W→Calls Tryz.prog g (#[.agg #[.int .i64 d.1,.int .i64 d.2]]++lb) W fun e w'=>e=.returned (.bool (p d))∧Below W.heap.size W w'
theorem IndexFuncEdge_any (g:Nat) (lb:Array Value) (p:Int × Int→Bool) (A:Option Addr) (n c:Nat) (fs:List (Int × Int)) (w:World) (h:Eds w w.heap.size A n fs) (hn:n≤1048576)
 (eg:∀args w,(callFunc g args).run Tryz.prog w=.ok (.enter g args) w) (hg:PredEdge g lb p fs w) :
 Calls Tryz.prog 124 #[.slice A n c,.func (.func g) #[] lb] w fun e w'=>e=.returned (.int .i64 (idxF p fs 0))∧Below w.heap.size w w':=by
 have Hh:=zh h;have Hlen:=zh h.1;have Hg:=zh hg;clear h hg;go_enter Tryz.func124,Tryz.ntmps124;go_wp2_with fail;go_loopw [8] (fun i wr=>∃k:Nat,k≤n∧i=.int .i64 k∧Below w.heap.size w wr∧Hid (idxF p fs 0=idxF p (fs.drop k) k)) (fun i _=>n-(intOf i).toNat);case atStart=>exact⟨0,Nat.zero_le _,rfl,Below.refl _ _,rfl⟩
 case round =>
  obtain⟨k,hk,rfl,hb,hS⟩:=hrel;have HB:=zh hb;clear hb;by_cases hlt:k<n
  · obtain⟨b,o,rfl,hbB,hcell⟩:=(Hh.out.later HB.out).2 (by omega);obtain⟨k0,k1⟩:=hcell k hlt;clear hcell;have hl:k<fs.length:=by rw[Hlen.out];exact hlt
    have HS:=zh (idxF_step p fs k hl);have HK:=zh (Hg.out (fs.getD k default) (getD_memQ fs k hl) wr HB.out);clear hl;generalize fs.getD k default=s at *;generalize hx:p s=x at *;have HX:=zh hx;clear hx;go_wp2_with fail;refine HK.out.mono ?_;rintro e w' ⟨rfl,hb1⟩;have HB1:=zh (HB.out.later hb1);clear hb1;cases x
    · go_wp2_with fail;go_roundw;case rel=>exact⟨k+1,by omega,by go_num,HB1.out,by unfold Hid;rw[hS.out,HS.out];rfl⟩
      case measure=>simp[intOf];omega
    · go_wp2_with fail;go_ret;exact⟨ret_int (by rw[hS.out,HS.out];rfl),HB1.out⟩
  · have HE:Hid (idxF p fs 0=-1):=by unfold Hid;rw[hS.out,List.drop_of_length_le (by rw[Hlen.out];omega)];rfl
    go_wp2_with fail;go_ret;exact⟨ret_int HE.out.symm,HB.out⟩
theorem ContainsFuncEdge_any (g:Nat) (lb:Array Value) (p:Int × Int→Bool) (A:Option Addr) (n c:Nat) (fs:List (Int × Int)) (w:World) (h:Eds w w.heap.size A n fs) (hn:n≤1048576)
 (eg:∀args w,(callFunc g args).run Tryz.prog w=.ok (.enter g args) w) (hg:PredEdge g lb p fs w) :
 Calls Tryz.prog 55 #[.slice A n c,.func (.func g) #[] lb] w fun e w'=>e=.returned (.bool (fs.any p))∧Below w.heap.size w w':=by
 have HK:=zh (IndexFuncEdge_any g lb p A n c fs w h hn eg hg);have hE:=idxF_any p fs 0;clear h hg eg;generalize fs.any p=R at *;generalize idxF p fs 0=x at *;have HE:=zh hE;clear hE;go_enter Tryz.func55,Tryz.ntmps55;go_wp2_with fail;refine HK.out.mono ?_;rintro e w' ⟨rfl,hb1⟩;have HB1:=zh hb1;clear hb1;go_wp2_with fail;go_ret;exact⟨ret_bool HE.out,HB1.out⟩
def leadsP (left:List Int) (job:Int) (e:Int × Int):Bool:=decide (e.2=job)&&decide (e.1∈left)
theorem SerialOrder11_any (e:Int × Int) (jb lp:Nat) (job:Int) (LA:Option Addr) (n c:Nat) (left:List Int) (w:World) (h1:w.cell? ⟨jb,0,none⟩=some (.int .i64 job)) (h2:w.cell? ⟨lp,0,none⟩=some (.slice LA n c)) (hjb:jb<w.heap.size) (hlp:lp<w.heap.size) (hI:Ints w w.heap.size LA n left) (hn:n≤1048576) :
 Calls Tryz.prog 56 #[.agg #[.int .i64 e.1,.int .i64 e.2],.pointer (some ⟨jb,0,none⟩),.pointer (some ⟨lp,0,none⟩)] w fun e' w'=>e'=.returned (.bool (leadsP left job e))∧Below w.heap.size w w':=by
 obtain⟨e1,e2⟩:=e;have HK:=zh (fun W (hW:Below w.heap.size w W)=>ContainsI64_any LA n c left e1 W (hI.later hW) hn);have HR:Hid (leadsP left job (e1,e2)=(decide (e2=job)&&decide (e1∈left))):=rfl;have HB0:Hid (Below w.heap.size w (w.alloc (.cells #[.int .i64 e1,.int .i64 e2] 48))):=Below.new _ _;clear hI;generalize leadsP left job (e1,e2)=R at *;generalize decide (e1∈left)=x at *;go_enter Tryz.func56,Tryz.ntmps56;by_cases he:e2=job
 · subst he;have HE:Hid (R=x):=by unfold Hid;rw[HR.out];simp
   go_wp2_with fail;refine(HK.out _ HB0.out).mono ?_;rintro e w1 ⟨rfl,rfl⟩;go_wp2_with fail;go_ret;exact⟨ret_bool HE.out.symm,HB0.out⟩
 · have hb:(e2==job)=false:=beq_eq_false_iff_ne.2 he;have HE:Hid (R=false):=by unfold Hid;rw[HR.out,decide_eq_false he];rfl
   go_wp2_with fail;go_ret;exact⟨ret_bool HE.out.symm,HB0.out⟩
theorem SerialOrder1_any (job:Int) (ep lp:Nat) (EA:Option Addr) (m ec:Nat) (es:List (Int × Int)) (LA:Option Addr) (n c:Nat) (left:List Int) (w:World) (h1:w.cell? ⟨ep,0,none⟩=some (.slice EA m ec)) (h2:w.cell? ⟨lp,0,none⟩=some (.slice LA n c)) (hep:ep<w.heap.size) (hlp:lp<w.heap.size) (hE:Eds w w.heap.size EA m es) (hI:Ints w w.heap.size LA n left) (hm:m≤1048576) (hn:n≤1048576) :
 Calls Tryz.prog 54 #[.int .i64 job,.pointer (some ⟨ep,0,none⟩),.pointer (some ⟨lp,0,none⟩)] w fun e' w'=>e'=.returned (.bool (freeE es left job))∧Below w.heap.size w w':=by
 have eg:∀args w,(callFunc 56 args).run Tryz.prog w=.ok (.enter 56 args) w:=enters_of Tryz.func56 (by kernel_rfl) rfl;have HB0:Hid (Below w.heap.size w (w.alloc (.cells #[.int .i64 job] 2))):=Below.new _ _;have HQ:Hid (Blk (w.alloc (.cells #[.int .i64 job] 2)) w.heap.size 2 #[.int .i64 job]):=heap_alloc_new _ _
 have HK:=zh (ContainsFuncEdge_any 56 #[.pointer (some ⟨w.heap.size,0,none⟩),.pointer (some ⟨lp,0,none⟩)] (leadsP left job) EA m ec es (w.alloc (.cells #[.int .i64 job] 2)) (hE.later HB0.out) hm eg
  (fun d hd W hW=>SerialOrder11_any d w.heap.size lp job LA n c left W ((HQ.out.later hW HQ.out.lt).at 0 rfl) (cell_later (HB0.out.later hW) h2) (by have:=hW.size;simp at this;omega) (by have:=hW.size;simp at this;omega) (hI.later (HB0.out.later hW)) hn))
 have HR:Hid (freeE es left job=!(es.any (leadsP left job))):=rfl;clear hE hI eg HQ;generalize freeE es left job=R at *;generalize es.any (leadsP left job)=x at *;go_enter Tryz.func54,Tryz.ntmps54;go_wp2_with fail;refine HK.out.mono ?_;rintro e w1 ⟨rfl,hb1⟩;have HB1:=zh (HB0.out.later hb1);clear hb1;go_wp2_with fail;go_ret;exact⟨ret_bool (by rw[HR.out]),HB1.out⟩
end Go.Proofs.YtlicffeicmoifaaGreatDoor
