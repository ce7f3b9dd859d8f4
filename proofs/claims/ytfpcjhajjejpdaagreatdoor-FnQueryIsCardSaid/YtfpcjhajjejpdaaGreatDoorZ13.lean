import Derived.Test.YtfpcjhajjejpdaaGreatDoorZ12
import Derived.Test.YtfpcjhajjejpdaaGreatDoorProg
import Derived.Deep.AppendLies
import Derived.Ground.GgwProg
import Derived.Ground.Names2Prog
import Derived.Ground.SlgnProg
import Derived.Shelf.GgClosure.StringsIndexFunc
import Derived.Shelf.GgClosure.StringsIndexFuncTop
import Derived.Shelf.LaysM
import Derived.Shelf.Slices.Cells
import Derived.Shelf.Slices.Clone
import Derived.Shelf.Slices.CompactS
import Derived.Shelf.Slices.Empties2
import Derived.Shelf.Slices.Equal
import Derived.Shelf.Slices.In.SortNone
import Derived.Shelf.Slices.Turned
import Derived.Shelf.SlicesE.Clone
import Derived.Shelf.SlicesG.SearchI
import Derived.Shelf.Small.Bits
import Derived.Shelf.Small.Strs
import Derived.Shelf.Small.Utf8
import Derived.Shelf.Small.Wraps
import Derived.Shelf.Sort.Plain
import Derived.Shelf.Strconv.Itoa0
import Derived.Shelf.Strconv.Itoa1
import Derived.Shelf.Strconv.Itoa2
import Derived.Shelf.Strconv.Itoa3
import Derived.Shelf.Strconv.Itoa4
import Derived.Shelf.Strings.AsciiSet
import Derived.Shelf.Strings.Builder1
import Derived.Shelf.Strings.Builder2
import Derived.Shelf.Strings.Count
import Derived.Shelf.Strings.Explode
import Derived.Shelf.Strings.FuncGrows
import Derived.Shelf.Strings.OnBuilder
import Derived.Shelf.Strings.Prefix
import Derived.Shelf.Strings.Replace
import Derived.Shelf.Strings.RuneCount
import Derived.Shelf.Strings.Runes
import Derived.Shelf.Strings.Search1
import Derived.Shelf.Strings.Search2
import Derived.Shelf.Strings.Search3
import Derived.Shelf.Strings.Shaped
import Derived.Shelf.Strings.Split
import Derived.Shelf.Strings.SplitShaped
import Derived.Shelf.Strings.Trim
import Derived.Shelf.Unicode.Decode
import Derived.Shelf.Unicode.DecodeAny
import Derived.Shelf.Unicode.DecodeLast
import Derived.Shelf.Unicode.DecodeSlow
import Derived.Shelf.Utf8.RuneCount
open Go.Lib renaming hid → zh
namespace Go.Proofs.YtfpcjhajjejpdaaGreatDoor
open Go.RowKit
def yG (cols:List ByteArray) (key val:ByteArray):List ByteArray:=key::(if 1<cols.length then uZ 94 val else [])
def uH (cols:List ByteArray) (key val:ByteArray):Option (List ByteArray) :=
 if ((decide (cols.length=1)&&decide (val≠⟨#[]⟩))||!vQ cols (yG cols key val))=true then none else some (yG cols key val)
def zAQ (o:Option (List ByteArray)):Int:=if o.isSome=true then 0 else 14
def zJf (o:Option (List ByteArray)) (w:World) (e:Ending) (w':World):Prop:=∃v,e=.returned (.tuple #[.agg #[v],.int .i64 (zAQ o)])∧Own.SubO w' w.heap.size v (o.getD [])∧Below w.heap.size w w'
theorem zBN (c:UInt8) (s:ByteArray):(uZ c s).length≤s.size+1∧∀x∈uZ c s,x.size≤s.size:=by
 unfold uZ;constructor
 · rw[List.length_map];have:=zHh c s.data.toList;rw[←Lib.size_eq]at this;exact this
 · intro x hx;obtain⟨l,hl,rfl⟩:=List.mem_map.1 hx;have:=zEl c s.data.toList l hl;rw[←Lib.size_eq]at this;rw[Lib.size_eq];simpa using this
theorem yW (cols:List ByteArray) (key val:ByteArray) (hk:key.size≤1048576) (hv:val.size≤64):yH (yG cols key val):=by
 unfold yG;have h:=zBN 94 val;split
 · refine⟨by simp;omega,fun s hs=>?_⟩;rcases List.mem_cons.1 hs with rfl | hs
   · exact hk
   · have:=h.2 s hs;omega
 · exact⟨by simp,fun s hs=>by rw[List.mem_singleton.1 hs];exact hk⟩
theorem zJb (c:UInt8) (s:ByteArray):0<(uZ c s).length:=by
 unfold uZ;rw[List.length_map];exact List.length_pos_iff.2 (zFN _ _)
theorem zAm (ss:List ByteArray):∀u∈ss.map Value.string,u.oneCell'=true:=by
 intro u hu;obtain⟨s,_,rfl⟩:=List.mem_map.1 hu;rfl
set_option maxRecDepth 100000 in
set_option maxHeartbeats 4000000 in
theorem zEM (b0 b1 b2 b3:Value) (b:TableD) (key val:ByteArray) (w:World) (hb:TableR w w.heap.size b0 b1 b2 b3 b) (hpos:0<b.cols.length) (hn5:b.cols.length≤5) (hk:key.size≤1048576) (hv:val.size≤64) :
 Calls Tryz.prog 119 #[.agg #[b0,b1,b2,b3],.string key,.string val] w (zJf (uH b.cols key val) w):=by
 obtain⟨i0,hi,hz0,hz1,hz2⟩:=info_parts zAu;have HT:=zh (fun W (hW:Below w.heap.size w W)=>hb.later hW);have HRS:=zh (yW b.cols key val hk hv);have HKC:=zh (fun W=>zIh val W (by omega));have HKR:=zh (fun W (hW:Below w.heap.size w W) r0 (hr:RowR W W.heap.size r0 (yG b.cols key val))=>zDV b0 b1 b2 b3 r0 b (yG b.cols key val) W (hb.later hW) hr (yW b.cols key val hk hv) hpos);have HU:Hid (uH b.cols key val=(if ((decide (b.cols.length=1)&&decide (val≠⟨#[]⟩))||!vQ b.cols (yG b.cols key val))=true then none else some (yG b.cols key val))):=rfl;have HCL:=zh (zBN 94 val);have HCN:=zh (zJb 94 val);obtain⟨rfl,rfl,⟨A2,n2,p2,rfl,s2,k2⟩,⟨A3,n3,p3,rfl,s3,k3⟩⟩:=hb;have hl2:=s2.1;have HRV:Hid (yG b.cols key val=key::(if 1<n2 then uZ 94 val else [])):=by unfold Hid yG;rw[hl2]
 rw[hl2]at hpos hn5;rw[hl2]at HU;clear s2 s3 hl2;generalize uH b.cols key val=U at *;generalize vQ b.cols (yG b.cols key val)=rb at *;generalize yG b.cols key val=ROW at *;generalize b.name=nm at *;generalize b.glob=gl at *;generalize uZ 94 val=CS at *;have HB0:=zh (zBO w (.cells #[.string nm,.string gl,.slice A2 n2 p2,.slice A3 n3 p3] 29) (.cells #[.slice none 0 0] 40) (.cells #[.string key] 9) (.cells #[.slice (some ⟨w.heap.size+1+1,0,none⟩) 1 1] 40));have HX0:=zh (zCK w (.cells #[.string nm,.string gl,.slice A2 n2 p2,.slice A3 n3 p3] 29) (.cells #[.slice none 0 0] 40) (.cells #[.string key] 9) (.cells #[.slice (some ⟨w.heap.size+1+1,0,none⟩) 1 1] 40));have HX1:=zh (zCJ w (.cells #[.string nm,.string gl,.slice A2 n2 p2,.slice A3 n3 p3] 29) (.cells #[.slice none 0 0] 40) (.cells #[.string key] 9) (.cells #[.slice (some ⟨w.heap.size+1+1,0,none⟩) 1 1] 40));have HX2:=zh (zCI w (.cells #[.string nm,.string gl,.slice A2 n2 p2,.slice A3 n3 p3] 29) (.cells #[.slice none 0 0] 40) (.cells #[.string key] 9) (.cells #[.slice (some ⟨w.heap.size+1+1,0,none⟩) 1 1] 40));have HX3:=zh (zCH w (.cells #[.string nm,.string gl,.slice A2 n2 p2,.slice A3 n3 p3] 29) (.cells #[.slice none 0 0] 40) (.cells #[.string key] 9) (.cells #[.slice (some ⟨w.heap.size+1+1,0,none⟩) 1 1] 40));go_enter Tryz.func119,Tryz.ntmps119;by_cases h1:n2=1
 · subst h1;have HRV2:Hid (ROW=[key]):=by unfold Hid;rw[HRV.out,if_neg (by omega)]
   clear HRV;by_cases hve:val=⟨#[]⟩
   · have HE:Hid (U=if rb=true then some ROW else none):=by unfold Hid;rw[HU.out,decide_eq_false (show ¬(val≠⟨#[]⟩) from fun h=>h hve)];cases rb <;> simp
     have HSub:Hid (Own.SubO ((((w.alloc (.cells #[.string nm,.string gl,.slice A2 1 p2,.slice A3 n3 p3] 29)).alloc (.cells #[.slice none 0 0] 40)).alloc (.cells #[.string key] 9)).alloc (.cells #[.slice (some ⟨w.heap.size+1+1,0,none⟩) 1 1] 40)) w.heap.size (.slice (some ⟨w.heap.size+1+1,0,none⟩) 1 1) [key]) :=
      Own.sub_of_blk (ss:=[key]) HX2.out (by omega) (by simp[maxLen])
     subst hve;clear HU;go_wp2_with fail;refine(HKR.out _ HB0.out _ (by obtain⟨A,c,e,hc,hs⟩:=HSub.out.strs;rw[HRV2.out];exact⟨A,_,c,e,hs,hc⟩)).mono ?_;rintro e w1 ⟨rfl,hb1⟩;have HB1:=zh (HB0.out.later hb1);have HY1:=zh (Blk.later HX1.out hb1 (by first | (simp;done) | (simp;omega)));have HY3:=zh (Blk.later HX3.out hb1 (by first | (simp;done) | (simp;omega)));have HS1:=zh (Own.own_later HSub.out hb1);have p1:=HY1.out.cell;have f1:=HY1.out.frozen;have z1:=HY1.out.lt;have p3':=HY3.out.cell;have z3:=HY3.out.lt;clear hb1;cases rb
     · have HE2:Hid (U=none):=by unfold Hid;rw[HE.out];rfl
       go_wp2_with fail;refine bodyPost_ret (v:=.tuple #[.agg #[.slice none 0 0],.int .i64 14]) (by simp[results,Tryz.results119,go_sem,p1]) rfl ?_;rw[HE2.out];exact⟨_,rfl,Own.sub_nil _ _,HB1.out.setCell (by simp) _⟩
     · have HE2:Hid (U=some [key]):=by unfold Hid;rw[HE.out,HRV2.out];rfl
       go_wp2_with fail;refine bodyPost_ret (v:=.tuple #[.agg #[.slice (some ⟨w.heap.size+1+1,0,none⟩) 1 1],.int .i64 0]) (by simp[results,Tryz.results119,go_sem,p1]) rfl ?_;rw[HE2.out];refine⟨_,rfl,?_,HB1.out.setCell (by simp) _⟩;exact World.ownsRow.kept HS1.out (row:=some (w.heap.size+1)) (Own.grown_set _ _ _ _) (.inr (by simp[Value.ownBlock]))
   · have HE:Hid (U=none):=by unfold Hid;rw[HU.out,decide_eq_true hve];rfl
     have hbe:=uC hve;have hbn:=zP0 hve;have hbe3:=uN hve;have p1:=Blk.cell HX1.out;have f1:=Blk.frozen HX1.out;have z1:=Blk.lt HX1.out;clear hve HU;go_wp2_with fail;refine bodyPost_ret (v:=.tuple #[.agg #[.slice none 0 0],.int .i64 14]) (by simp[results,Tryz.results119,go_sem,p1]) rfl ?_;rw[HE.out];first | exact⟨_,rfl,Own.sub_nil _ _,HB0.out⟩ | exact⟨_,rfl,Own.sub_nil _ _,HB0.out.setCell (by simp) _⟩
 · have hgt:1<n2:=by omega
   have HRV2:Hid (ROW=key::CS):=by unfold Hid;rw[HRV.out,if_pos hgt]
   have HE:Hid (U=if rb=true then some ROW else none):=by unfold Hid;rw[HU.out,decide_eq_false h1];cases rb <;> simp
   have hg1:(1:Int)<(n2:Int):=by omega
   have hne1:((n2:Int)==1)=false:=by rw[beq_eq_false_iff_ne];omega
   have hne2:(n2==1)=false:=by rw[beq_eq_false_iff_ne];omega
   clear HRV HU h1;have p3':=Blk.cell HX3.out 0;have f3:=Blk.frozen HX3.out 0;have z3:=Blk.lt HX3.out;simp at p3';have hsz0:w.heap.size+1+1+1+1=((((w.alloc (.cells #[.string nm,.string gl,.slice A2 n2 p2,.slice A3 n3 p3] 29)).alloc (.cells #[.slice none 0 0] 40)).alloc (.cells #[.string key] 9)).alloc (.cells #[.slice (some ⟨w.heap.size+1+1,0,none⟩) 1 1] 40)).heap.size:=by simp
   have HRA0:Hid (Own.SubO ((((w.alloc (.cells #[.string nm,.string gl,.slice A2 n2 p2,.slice A3 n3 p3] 29)).alloc (.cells #[.slice none 0 0] 40)).alloc (.cells #[.string key] 9)).alloc (.cells #[.slice (some ⟨w.heap.size+1+1,0,none⟩) 1 1] 40)) w.heap.size (.slice (some ⟨w.heap.size+1+1,0,none⟩) 1 1) [key]) :=
    Own.sub_of_blk (ss:=[key]) HX2.out (by omega) (by simp[maxLen])
   go_wp2_with fail
   go_region_law (first
    | (refine step_append_lies _ (by rfl) _ _ _ (by rfl) w.heap.size 9 i0 _ 1 16 Tryz.underlying27 hi hz0 hz1 hz2 rfl (by omega) (.slice (some ⟨w.heap.size+1+1,0,none⟩) 1 1) 1 [.string key] (by rfl) (by exact HRA.out)
        ⟨gc,0,none⟩ CS.length cc (CS.map Value.string) (by rfl) (by simp) (by exact HCC.out) (by exact zAm CS)
        (by have:=HCN.out;omega) (by unfold maxLen;have:=HCL.out.1;omega) (by have:=HCL.out.1;omega) (by omega) w4.heap.size rfl ?_
       intro gg cap' w5 hown5 hgrow5 hat hlt2;have hbg:=(Blk.later HX3.out HB4.out (by omega)).grown hgrow5 (by simp[Value.ownBlock]);have p5:=hbg.cell;have f5:=hbg.frozen;have z5:=hbg.lt;have HBG:=zh hbg;have HOW:=zh hown5;have HGR:=zh hgrow5
       clear hbg hown5 hgrow5)
    | (go_simp
       go_at_call 174;refine(HKC.out _).mono ?_;rintro e w4 ⟨v',rfl,hsub,hb4⟩;have HB4:=zh (xC hb4);obtain⟨AC,cc,rfl,hcc,hmc,hac⟩:=Own.own_slice hsub;obtain⟨gc,rfl,hgc,hgcb⟩:=hac HCN.out;have HCC:=zh (World.ownsRow.cells (g:=gc) hsub rfl);clear hsub hb4;have q2:=(Blk.later HX3.out HB4.out (by omega)).cell 0;simp at q2;have z6:=(Blk.later HX3.out HB4.out (by omega)).lt;have hsz6:=HB4.out.size
       have HRA:=zh (Own.own_later HRA0.out HB4.out)))
   all_goals
    have hgn:gg≠w.heap.size+1+1+1:=by
     rcases hat with h | h
     · simp[Value.ownBlock]at h;omega
     · omega
    have hgn1:gg≠w.heap.size+1:=by
     rcases hat with h | h
     · simp[Value.ownBlock]at h;omega
     · omega
    have HS5:Hid (Own.SubO (w5.setCell ⟨w.heap.size+1+1+1,0,none⟩ (.slice (some ⟨gg,0,none⟩) (1+CS.length) cap')) w.heap.size (.slice (some ⟨gg,0,none⟩) (1+CS.length) cap') (key::CS)):=by have h:=World.ownsRow.kept HOW.out (row:=some (w.heap.size+1+1+1)) (Own.grown_set w5 (w.heap.size+1+1+1) 0 (.slice (some ⟨gg,0,none⟩) (1+CS.length) cap')) (.inr (by simpa [Value.ownBlock] using hgn));unfold Hid Own.SubO;rw[List.length_cons,Nat.add_comm CS.length 1];exact h
    have HB5:=zh (((HB0.out.later HB4.out).grown HGR.out (by omega) (fun g hg=>by simp[Value.ownBlock]at hg;omega)).setCell (p:=⟨w.heap.size+1+1+1,0,none⟩) (by simp;omega) (.slice (some ⟨gg,0,none⟩) (1+CS.length) cap'));have HZ0:=zh (((Blk.later HX0.out HB4.out (by omega)).grown HGR.out (by simp[Value.ownBlock];omega)).far (p:=⟨w.heap.size+1+1+1,0,none⟩) (by simp;omega) (.slice (some ⟨gg,0,none⟩) (1+CS.length) cap'));have HZ1:=zh (((Blk.later HX1.out HB4.out (by omega)).grown HGR.out (by simp[Value.ownBlock])).far (p:=⟨w.heap.size+1+1+1,0,none⟩) (by simp) (.slice (some ⟨gg,0,none⟩) (1+CS.length) cap'));have HZ3:=zh (HBG.out.set_ 0 (.slice (some ⟨gg,0,none⟩) (1+CS.length) cap'));have y0:=HZ0.out.cell 0;have y1:=HZ0.out.cell 1;have y2:=HZ0.out.cell 2;have y3:=HZ0.out.cell 3;have y4:=HZ3.out.cell 0;simp at y0 y1 y2 y3 y4;obtain⟨W5,hW5⟩:∃W5,W5=w5.setCell ⟨w.heap.size+1+1+1,0,none⟩ (.slice (some ⟨gg,0,none⟩) (1+CS.length) cap'):=⟨_,rfl⟩;rw[←hW5]at HS5 HB5 HZ0 HZ1 HZ3 y0 y1 y2 y3 y4 ⊢;clear hW5 p3' f3 z3 p5 f5 z5 q2 z6 HBG HOW HGR;go_wp2_with fail;refine(HKR.out _ HB5.out _ (by obtain⟨A,c,e,hc,hs⟩:=HS5.out.strs;rw[HRV2.out];exact⟨A,_,c,e,hs,hc⟩)).mono ?_;rintro e w6 ⟨rfl,hb6⟩;have HB6:=zh (HB5.out.later hb6);have HY1:=zh (HZ1.out.later hb6 HZ1.out.lt);have HY3:=zh (HZ3.out.later hb6 HZ3.out.lt);have HS6:=zh (Own.own_later HS5.out hb6);have p1:=HY1.out.cell;have f1:=HY1.out.frozen;have z1:=HY1.out.lt;have p3':=HY3.out.cell 0;have z3:=HY3.out.lt;simp at p3';clear hb6 y0 y1 y2 y3 y4;cases rb
    · have HE2:Hid (U=none):=by unfold Hid;rw[HE.out];rfl
      go_wp2_with fail;refine bodyPost_ret (v:=.tuple #[.agg #[.slice none 0 0],.int .i64 14]) (by simp[results,Tryz.results119,go_sem,p1]) rfl ?_;rw[HE2.out];exact⟨_,rfl,Own.sub_nil _ _,HB6.out.setCell (by simp) _⟩
    · have HE2:Hid (U=some (key::CS)):=by unfold Hid;rw[HE.out,HRV2.out];rfl
      go_wp2_with fail;refine bodyPost_ret (v:=.tuple #[.agg #[(.slice (some ⟨gg,0,none⟩) (1+CS.length) cap')],.int .i64 0]) (by simp[results,Tryz.results119,go_sem,p1]) rfl ?_;rw[HE2.out];refine⟨_,rfl,?_,HB6.out.setCell (by simp) _⟩;exact World.ownsRow.kept HS6.out (row:=some (w.heap.size+1)) (Own.grown_set _ _ _ _) (.inr (by simpa [Value.ownBlock] using hgn1))
end Go.Proofs.YtfpcjhajjejpdaaGreatDoor
namespace Go.Proofs
open Go.Shelf
def Tryz.lays144_ren:Go.Shelf.Ren:=⟨fun | 144=>199 | 143=>226 | 219=>247 | 217=>271 | 225=>272 | 224=>273 | 267=>274 | 266=>287 | 314=>288 | n=>n,fun | 9=>9 | 4=>4 | 3=>3 | 5=>5 | 46=>180 | 146=>249 | 51=>230 | n=>n,fun | 1=>0 | n=>n⟩
theorem Tryz.lays144:Go.Proofs.Lays.n144 Tryz.prog Tryz.lays144_ren:={
 mixed:=by kernel_rfl
 f143:=Tryz.func226.trans (congrArg some (by kernel_rfl))
 f144:=Tryz.func199.trans (congrArg some (by kernel_rfl))
 f217:=Tryz.func271.trans (congrArg some (by kernel_rfl))
 f219:=Tryz.func247.trans (congrArg some (by kernel_rfl))
 f224:=Tryz.func273.trans (congrArg some (by kernel_rfl))
 f225:=Tryz.func272.trans (congrArg some (by kernel_rfl))
 f266:=Tryz.func287.trans (congrArg some (by kernel_rfl))
 f267:=Tryz.func274.trans (congrArg some (by kernel_rfl))
 f314:=Tryz.func288.trans (congrArg some (by kernel_rfl))
 t3:=Tryz.underlying3
 a3:=Tryz.isAgg3
 z3:=Tryz.sizeOf3
 v3:=Tryz.zeroValue3
 t4:=Tryz.underlying4
 a4:=Tryz.isAgg4
 z4:=Tryz.sizeOf4
 v4:=Tryz.zeroValue4
 t5:=Tryz.underlying5
 a5:=Tryz.isAgg5
 z5:=Tryz.sizeOf5
 v5:=Tryz.zeroValue5
 t9:=Tryz.underlying9
 a9:=Tryz.isAgg9
 z9:=Tryz.sizeOf9
 v9:=Tryz.zeroValue9
 t46:=Tryz.underlying180
 a46:=Tryz.isAgg180
 z46:=Tryz.sizeOf180
 v46:=Tryz.zeroValue180
 t51:=Tryz.underlying230
 a51:=Tryz.isAgg230
 z51:=Tryz.sizeOf230
 v51:=Tryz.zeroValue230
 t146:=Tryz.underlying249
 a146:=Tryz.isAgg249
 z146:=Tryz.sizeOf249
 v146:=Tryz.zeroValue249
 g1:=by kernel_rfl }
open Go.RowKit Go.Lib in
theorem Tryz.strings_Contains_one (s:ByteArray) (c:UInt8) (w:World) :
 Calls Tryz.prog 199 #[.string s,.string ⟨#[c]⟩] w fun e w'=>e=.returned (.bool (decide (0≤Lib.indexByte s.data.toList c)))∧w'=w:=Any.strings_Contains_one Tryz.lays144 s c w
def Tryz.lays190_ren:Go.Shelf.Ren:=⟨fun | 190=>212 | 125=>241 | 258=>240 | 128=>266 | 129=>267 | 302=>257 | 303=>258 | 304=>259 | 305=>260 | 306=>261 | 307=>262 | 308=>263 | 309=>264 | 310=>265 | 333=>282 | 329=>283 | 330=>284 | 334=>285 | 335=>286 | 336=>197 | 344=>296 | n=>n,fun | 31=>27 | 9=>9 | 3=>3 | 46=>180 | 0=>0 | 51=>230 | 53=>115 | 4=>4 | 183=>224 | 182=>223 | 131=>181 | 5=>5 | 218=>243 | 222=>247 | 228=>259 | 229=>260 | n=>n,fun | n=>n⟩
theorem Tryz.lays190:Go.Proofs.Lays.n190 Tryz.prog Tryz.lays190_ren:={
 mixed:=by kernel_rfl
 f125:=Tryz.func241.trans (congrArg some (by kernel_rfl))
 f128:=Tryz.func266.trans (congrArg some (by kernel_rfl))
 f129:=Tryz.func267.trans (congrArg some (by kernel_rfl))
 f190:=Tryz.func212.trans (congrArg some (by kernel_rfl))
 f258:=Tryz.func240.trans (congrArg some (by kernel_rfl))
 f302:=Tryz.func257.trans (congrArg some (by kernel_rfl))
 f303:=Tryz.func258.trans (congrArg some (by kernel_rfl))
 f304:=Tryz.func259.trans (congrArg some (by kernel_rfl))
 f305:=Tryz.func260.trans (congrArg some (by kernel_rfl))
 f306:=Tryz.func261.trans (congrArg some (by kernel_rfl))
 f307:=Tryz.func262.trans (congrArg some (by kernel_rfl))
 f308:=Tryz.func263.trans (congrArg some (by kernel_rfl))
 f309:=Tryz.func264.trans (congrArg some (by kernel_rfl))
 f310:=Tryz.func265.trans (congrArg some (by kernel_rfl))
 f329:=Tryz.func283.trans (congrArg some (by kernel_rfl))
 f330:=Tryz.func284.trans (congrArg some (by kernel_rfl))
 f333:=Tryz.func282.trans (congrArg some (by kernel_rfl))
 f334:=Tryz.func285.trans (congrArg some (by kernel_rfl))
 f335:=Tryz.func286.trans (congrArg some (by kernel_rfl))
 f336:=Tryz.func197.trans (congrArg some (by kernel_rfl))
 f344:=Tryz.func296.trans (congrArg some (by kernel_rfl))
 t0:=Tryz.underlying0
 a0:=Tryz.isAgg0
 z0:=Tryz.sizeOf0
 v0:=Tryz.zeroValue0
 t3:=Tryz.underlying3
 a3:=Tryz.isAgg3
 z3:=Tryz.sizeOf3
 v3:=Tryz.zeroValue3
 t4:=Tryz.underlying4
 a4:=Tryz.isAgg4
 z4:=Tryz.sizeOf4
 v4:=Tryz.zeroValue4
 t5:=Tryz.underlying5
 a5:=Tryz.isAgg5
 z5:=Tryz.sizeOf5
 v5:=Tryz.zeroValue5
 t9:=Tryz.underlying9
 a9:=Tryz.isAgg9
 z9:=Tryz.sizeOf9
 v9:=Tryz.zeroValue9
 t31:=Tryz.underlying27
 a31:=Tryz.isAgg27
 z31:=Tryz.sizeOf27
 v31:=Tryz.zeroValue27
 t46:=Tryz.underlying180
 a46:=Tryz.isAgg180
 z46:=Tryz.sizeOf180
 v46:=Tryz.zeroValue180
 t51:=Tryz.underlying230
 a51:=Tryz.isAgg230
 z51:=Tryz.sizeOf230
 v51:=Tryz.zeroValue230
 t53:=Tryz.underlying115
 a53:=Tryz.isAgg115
 z53:=Tryz.sizeOf115
 v53:=Tryz.zeroValue115
 t131:=Tryz.underlying181
 a131:=Tryz.isAgg181
 z131:=Tryz.sizeOf181
 v131:=Tryz.zeroValue181
 t182:=Tryz.underlying223
 a182:=Tryz.isAgg223
 z182:=Tryz.sizeOf223
 v182:=Tryz.zeroValue223
 t183:=Tryz.underlying224
 a183:=Tryz.isAgg224
 z183:=Tryz.sizeOf224
 v183:=Tryz.zeroValue224
 t218:=Tryz.underlying243
 a218:=Tryz.isAgg243
 z218:=Tryz.sizeOf243
 v218:=Tryz.zeroValue243
 t222:=Tryz.underlying247
 a222:=Tryz.isAgg247
 z222:=Tryz.sizeOf247
 v222:=Tryz.zeroValue247
 t228:=Tryz.underlying259
 a228:=Tryz.isAgg259
 z228:=Tryz.sizeOf259
 v228:=Tryz.zeroValue259
 t229:=Tryz.underlying260
 a229:=Tryz.isAgg260
 z229:=Tryz.sizeOf260
 v229:=Tryz.zeroValue260 }
open Go.Sort Go.RowKit in
theorem Tryz.slices_Sort_string (blk off cap:Nat) (ss:List (List UInt8)) (w:World) (hH:Holds encStr w blk off ss.toArray) (hblk:blk<w.heap.size) (hsz:ss.length<4611686018427387904) :
 Calls Tryz.prog 212 #[.slice (some ⟨blk,off,none⟩) ss.length cap] w fun e w' =>
  e=.returned (.tuple #[])∧∃n os,w'=grow (putRow encStr (Sort.ahead w n) blk off (ss.mergeSort fun x y=>decide (x≤y)).toArray) os:=Any.slices_Sort_string Tryz.lays190 blk off cap ss w hH hblk hsz
def Tryz.laysGw17_ren:Go.Shelf.Ren:=⟨fun | 17=>218 | 15=>243 | 20=>268 | n=>n,fun | 9=>9 | 23=>195 | 4=>4 | 3=>3 | 0=>0 | 21=>21 | n=>n,fun | n=>n⟩
theorem Tryz.laysGw17:Go.Proofs.LaysGw.n17 Tryz.prog Tryz.laysGw17_ren:={
 mixed:=by kernel_rfl
 f15:=Tryz.func243.trans (congrArg some (by kernel_rfl))
 f17:=Tryz.func218.trans (congrArg some (by kernel_rfl))
 f20:=Tryz.func268.trans (congrArg some (by kernel_rfl))
 t0:=Tryz.underlying0
 a0:=Tryz.isAgg0
 z0:=Tryz.sizeOf0
 v0:=Tryz.zeroValue0
 i0:=by kernel_rfl
 t3:=Tryz.underlying3
 a3:=Tryz.isAgg3
 z3:=Tryz.sizeOf3
 v3:=Tryz.zeroValue3
 i3:=by kernel_rfl
 t4:=Tryz.underlying4
 a4:=Tryz.isAgg4
 z4:=Tryz.sizeOf4
 v4:=Tryz.zeroValue4
 i4:=by kernel_rfl
 t9:=Tryz.underlying9
 a9:=Tryz.isAgg9
 z9:=Tryz.sizeOf9
 v9:=Tryz.zeroValue9
 i9:=by kernel_rfl
 t21:=Tryz.underlying21
 a21:=Tryz.isAgg21
 z21:=Tryz.sizeOf21
 v21:=Tryz.zeroValue21
 i21:=by kernel_rfl
 t23:=Tryz.underlying195
 a23:=Tryz.isAgg195
 z23:=Tryz.sizeOf195
 v23:=Tryz.zeroValue195
 i23:=by kernel_rfl }
open Go.RowKit Go.Lib in
theorem Tryz.strings_ContainsFunc (g:Nat) (lb:Array Value) (eg:∀args w,(callFunc g args).run Tryz.prog w=.ok (.enter g args) w) (p:Nat→Bool) (s:ByteArray) (w:World) (hp:PredAt Tryz.prog g lb encR p w) :
 Calls Tryz.prog 218 #[.string s,.func (.func g) #[] lb] w fun e w'=>e=.returned (.bool (decide (0≤Lib.idxFunc p true s)))∧Below w.heap.size w w':=Any.strings_ContainsFunc Tryz.laysGw17 g lb eg p s w hp
def Tryz.lays109_ren:Go.Shelf.Ren:=⟨fun | 109=>127 | n=>n,fun | 31=>27 | 9=>9 | 3=>3 | 0=>0 | 4=>4 | n=>n,fun | n=>n⟩
theorem Tryz.lays109:Go.Proofs.Lays.n109 Tryz.prog Tryz.lays109_ren:={
 mixed:=by kernel_rfl
 f109:=Tryz.func127.trans (congrArg some (by kernel_rfl))
 t0:=Tryz.underlying0
 a0:=Tryz.isAgg0
 z0:=Tryz.sizeOf0
 v0:=Tryz.zeroValue0
 t3:=Tryz.underlying3
 a3:=Tryz.isAgg3
 z3:=Tryz.sizeOf3
 v3:=Tryz.zeroValue3
 t4:=Tryz.underlying4
 a4:=Tryz.isAgg4
 z4:=Tryz.sizeOf4
 v4:=Tryz.zeroValue4
 t9:=Tryz.underlying9
 a9:=Tryz.isAgg9
 z9:=Tryz.sizeOf9
 v9:=Tryz.zeroValue9
 t31:=Tryz.underlying27
 a31:=Tryz.isAgg27
 z31:=Tryz.sizeOf27
 v31:=Tryz.zeroValue27 }
open Go.Lib in
theorem Tryz.slices_Index_string (b off n c:Nat) (zs:List ByteArray) (x:ByteArray) (w:World) (hz:n≤zs.length) (hbig:n≤9223372036854775807) (hc:∀j,j<zs.length→w.cell? ⟨b,off+j,none⟩=some (.string (zs.getD j ByteArray.empty))) :
 Calls Tryz.prog 127 #[.slice (some ⟨b,off,none⟩) n c,.string x] w fun e w'=>e=.returned (.int .i64 (Lib.idxOfS (zs.take n) x))∧w'=w:=Any.slices_Index_string Tryz.lays109 b off n c zs x w hz hbig hc
open Go.Lib in
theorem Tryz.slices_Index_string_empty (a:Option Addr) (c:Nat) (x:ByteArray) (w:World) :
 Calls Tryz.prog 127 #[.slice a 0 c,.string x] w fun e w'=>e=.returned (.int .i64 (Lib.idxOfS [] x))∧w'=w:=Any.slices_Index_string_empty Tryz.lays109 a c x w
def Tryz.lays110_ren:Go.Shelf.Ren:=⟨fun | 110=>64 | 109=>127 | n=>n,fun | 31=>27 | 9=>9 | 4=>4 | 3=>3 | 0=>0 | n=>n,fun | n=>n⟩
theorem Tryz.lays110:Go.Proofs.Lays.n110 Tryz.prog Tryz.lays110_ren:={
 mixed:=by kernel_rfl
 f109:=Tryz.func127.trans (congrArg some (by kernel_rfl))
 f110:=Tryz.func64.trans (congrArg some (by kernel_rfl))
 t0:=Tryz.underlying0
 a0:=Tryz.isAgg0
 z0:=Tryz.sizeOf0
 v0:=Tryz.zeroValue0
 t3:=Tryz.underlying3
 a3:=Tryz.isAgg3
 z3:=Tryz.sizeOf3
 v3:=Tryz.zeroValue3
 t4:=Tryz.underlying4
 a4:=Tryz.isAgg4
 z4:=Tryz.sizeOf4
 v4:=Tryz.zeroValue4
 t9:=Tryz.underlying9
 a9:=Tryz.isAgg9
 z9:=Tryz.sizeOf9
 v9:=Tryz.zeroValue9
 t31:=Tryz.underlying27
 a31:=Tryz.isAgg27
 z31:=Tryz.sizeOf27
 v31:=Tryz.zeroValue27 }
open Go.Lib in
theorem Tryz.slices_Contains_string (b off n c:Nat) (zs:List ByteArray) (x:ByteArray) (w:World) (hz:n≤zs.length) (hbig:n≤9223372036854775807) (hc:∀j,j<zs.length→w.cell? ⟨b,off+j,none⟩=some (.string (zs.getD j ByteArray.empty))) :
 Calls Tryz.prog 64 #[.slice (some ⟨b,off,none⟩) n c,.string x] w fun e w'=>e=.returned (.bool (Lib.containsS (zs.take n) x))∧w'=w:=Any.slices_Contains_string Tryz.lays110 b off n c zs x w hz hbig hc
open Go.Lib in
theorem Tryz.slices_Contains_string_empty (a:Option Addr) (c:Nat) (x:ByteArray) (w:World) :
 Calls Tryz.prog 64 #[.slice a 0 c,.string x] w fun e w'=>e=.returned (.bool false)∧w'=w:=Any.slices_Contains_string_empty Tryz.lays110 a c x w
def Tryz.laysNm216_ren:Go.Shelf.Ren:=⟨fun | 16=>103 | n=>n,fun | 24=>27 | 9=>9 | 4=>4 | n=>n,fun | n=>n⟩
theorem Tryz.laysNm216:Go.Proofs.Lays2.n16 Tryz.prog Tryz.laysNm216_ren:={
 mixed:=by kernel_rfl
 f16:=Tryz.func103.trans (congrArg some (by kernel_rfl))
 t4:=Tryz.underlying4
 a4:=Tryz.isAgg4
 z4:=Tryz.sizeOf4
 v4:=Tryz.zeroValue4
 t9:=Tryz.underlying9
 a9:=Tryz.isAgg9
 z9:=Tryz.sizeOf9
 v9:=Tryz.zeroValue9
 t24:=Tryz.underlying27
 a24:=Tryz.isAgg27
 z24:=Tryz.sizeOf27
 v24:=Tryz.zeroValue27
 i9:=by kernel_rfl }
open Go.RowKit Go.Lib in
theorem Tryz.slices_Clone_string (b off n c:Nat) (zs:List ByteArray) (w:World) (hz:n≤zs.length) (hbig:n*16≤140737488355328) (hc:∀j,j<zs.length→w.cell? ⟨b,off+j,none⟩=some (.string (zs.getD j ByteArray.empty))) :
 Calls Tryz.prog 103 #[.slice (some ⟨b,off,none⟩) n c] w fun e w'=>∃v',e=.returned v'∧w'.ownsRow w.heap.size 9 1 v' n ((zs.take n).map (Value.string))∧v'≠.slice none 0 0∧Below w.heap.size w w':=Any.slices_Clone_string Tryz.laysNm216 b off n c zs w hz hbig hc
open Go.RowKit Go.Lib in
theorem Tryz.slices_Clone_string_nil (n c:Nat) (w:World) :
 Calls Tryz.prog 103 #[.slice none n c] w fun e w'=>e=.returned (.slice none 0 0)∧w'=w:=Any.slices_Clone_string_nil Tryz.laysNm216 n c w
open Go.RowKit Go.Lib in
theorem Tryz.slices_Clone_string_zero (a:Addr) (c:Nat) (w:World) :
 Calls Tryz.prog 103 #[.slice (some a) 0 c] w fun e w'=>∃v',e=.returned v'∧w'.ownsRow w.heap.size 9 1 v' 0 []∧v'≠.slice none 0 0∧Below w.heap.size w w':=Any.slices_Clone_string_zero Tryz.laysNm216 a c w
def Tryz.lays194_ren:Go.Shelf.Ren:=⟨fun | 194=>180 | n=>n,fun | 31=>27 | 9=>9 | 3=>3 | 4=>4 | 0=>0 | n=>n,fun | n=>n⟩
theorem Tryz.lays194:Go.Proofs.Lays.n194 Tryz.prog Tryz.lays194_ren:={
 mixed:=by kernel_rfl
 f194:=Tryz.func180.trans (congrArg some (by kernel_rfl))
 t0:=Tryz.underlying0
 a0:=Tryz.isAgg0
 z0:=Tryz.sizeOf0
 v0:=Tryz.zeroValue0
 t3:=Tryz.underlying3
 a3:=Tryz.isAgg3
 z3:=Tryz.sizeOf3
 v3:=Tryz.zeroValue3
 t4:=Tryz.underlying4
 a4:=Tryz.isAgg4
 z4:=Tryz.sizeOf4
 v4:=Tryz.zeroValue4
 t9:=Tryz.underlying9
 a9:=Tryz.isAgg9
 z9:=Tryz.sizeOf9
 v9:=Tryz.zeroValue9
 t31:=Tryz.underlying27
 a31:=Tryz.isAgg27
 z31:=Tryz.sizeOf27
 v31:=Tryz.zeroValue27 }
open Go.RowKit Go.Lib Go.Sort in
theorem Tryz.slices_Compact_string (blk off cap:Nat) (zs:List (List UInt8)) (w:World) (hH:Holds encStr w blk off zs.toArray) (hsz:zs.length≤9223372036854775807) (hcap:zs.length≤cap) :
 Calls Tryz.prog 180 #[.slice (some ⟨blk,off,none⟩) zs.length cap] w fun e w'=>e=.returned (.slice (some ⟨blk,off,none⟩) (Lib.compact zs).length cap)∧∃q,w'=putRow encStr (Sort.ahead w q) blk off (Lib.compact zs++List.replicate (zs.length-(Lib.compact zs).length) []).toArray:=Any.slices_Compact_string Tryz.lays194 blk off cap zs w hH hsz hcap
open Go.RowKit Go.Lib Go.Sort in
theorem Tryz.slices_Compact_string_empty (a:Option Addr) (cap:Nat) (w:World) :
 Calls Tryz.prog 180 #[.slice a 0 cap] w fun e w'=>e=.returned (.slice a 0 cap)∧w'=w:=Any.slices_Compact_string_empty Tryz.lays194 a cap w
open Go.RowKit Go.Sort in
theorem Tryz.slices_Sort_string_none (p:Option Addr) (cap:Nat) (w:World) :
 Calls Tryz.prog 212 #[.slice p 0 cap] w fun e w'=>e=.returned (.tuple #[])∧w'=w:=Any.slices_Sort_string_none Tryz.lays190 p cap w
end Go.Proofs
