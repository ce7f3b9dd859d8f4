import Derived.Test.YtgmaamnofhmecaaGreatDoorV20
import Derived.Test.YtgmaamnofhmecaaGreatDoorV17
import Derived.Test.YtgmaamnofhmecaaGreatDoorV13
import Derived.Test.YtgmaamnofhmecaaGreatDoorProg
import Derived.Test.YtgmaamnofhmecaaGreatDoorV18
import Derived.Test.YtgmaamnofhmecaaGreatDoorV01
import Derived.Ground.GgwProg
import Derived.Ground.Names2Prog
import Derived.Ground.SlgnProg
import Derived.Shelf.GgClosure.StringsIndexFunc
import Derived.Shelf.GgClosure.StringsIndexFuncTop
import Derived.Shelf.LaysM
import Derived.Shelf.Slices.Cells
import Derived.Shelf.Slices.Clone
import Derived.Shelf.Slices.CompactS
import Derived.Shelf.Slices.Empties2
import Derived.Shelf.Slices.Equal
import Derived.Shelf.Slices.In.SortNone
import Derived.Shelf.Slices.Turned
import Derived.Shelf.SlicesE.Clone
import Derived.Shelf.SlicesG.SearchI
import Derived.Shelf.Small.Bits
import Derived.Shelf.Small.Strs
import Derived.Shelf.Small.Utf8
import Derived.Shelf.Small.Wraps
import Derived.Shelf.Sort.Plain
import Derived.Shelf.Strconv.Itoa0
import Derived.Shelf.Strconv.Itoa1
import Derived.Shelf.Strconv.Itoa2
import Derived.Shelf.Strconv.Itoa3
import Derived.Shelf.Strconv.Itoa4
import Derived.Shelf.Strings.AsciiSet
import Derived.Shelf.Strings.Builder1
import Derived.Shelf.Strings.Builder2
import Derived.Shelf.Strings.Count
import Derived.Shelf.Strings.Explode
import Derived.Shelf.Strings.FuncGrows
import Derived.Shelf.Strings.OnBuilder
import Derived.Shelf.Strings.Prefix
import Derived.Shelf.Strings.Replace
import Derived.Shelf.Strings.RuneCount
import Derived.Shelf.Strings.Runes
import Derived.Shelf.Strings.Search1
import Derived.Shelf.Strings.Search2
import Derived.Shelf.Strings.Search3
import Derived.Shelf.Strings.Shaped
import Derived.Shelf.Strings.Split
import Derived.Shelf.Strings.SplitShaped
import Derived.Shelf.Strings.Trim
import Derived.Shelf.Unicode.Decode
import Derived.Shelf.Unicode.DecodeAny
import Derived.Shelf.Unicode.DecodeLast
import Derived.Shelf.Unicode.DecodeSlow
import Derived.Shelf.Utf8.RuneCount
import Derived.Lib.IndexBytes
set_option maxHeartbeats 4000000
open Go.Lib renaming hid → zh
namespace Go.Proofs.YtgmaamnofhmecaaGreatDoor
open Go.RowKit
set_option linter.unusedVariables false
theorem zFB (fs:List ChgD) (k:Nat) (h:k<fs.length):fs.getD k default∈fs:=by
 rw[List.getD_eq_getElem?_getD,List.getElem?_eq_getElem h];simp
theorem zIp (cs:List ChgD) (k:Nat) (h:k<cs.length):cs.drop k=cs.getD k default::cs.drop (k+1):=by
 rw[List.drop_eq_getElem_cons h,List.getD_eq_getElem?_getD,List.getElem?_eq_getElem h];rfl
set_option maxRecDepth 100000 in
theorem vN (A:Option Addr) (n c:Nat) (L:Option Addr) (m q:Nat) (fs:List NodeD) (cs:List ChgD) (w:World) (h:Nodes w w.heap.size A n fs) (hs:wB fs) (h':Chgs w w.heap.size L m cs) (hm:m≤1048576) (hd:∀d∈cs,d.small) :
 Calls Tryz.prog 16 #[.agg #[.slice A n c],.slice L m q] w (zAj (uA fs cs) w):=by
 have HKT:=zh (fun W (hW:Below w.heap.size w W)=>uG A n c fs W (h.later hW) hs);have HKO:=zh (fun W (hW:Below w.heap.size w W)=>zAN A n c fs W (h.later hW) hs);have HLC:=zh h';have HLL:=zh h'.1;have HSD:=zh hd;have HB:Hid (uA fs cs=if xA fs=true then (if 120<m then (4,[]) else zB0 fs cs) else (1,[])):=by unfold Hid uA;rw[h'.1]
 have HT0:Hid (xA fs=xA fs):=rfl;clear h h' hs hd;generalize uA fs cs=PB at *;generalize hT:xA fs=t0 at *;have HT:=zh hT;clear hT HT0;go_enter Tryz.func16,Tryz.ntmps16;go_wp2_with fail;refine(HKT.out _ ((Below.new _ _).later (Below.new _ _))).mono ?_;rintro e w1 ⟨rfl,hb1⟩;have HB1:=zh (((Below.new w _).later (Below.new _ _)).later hb1);have HX:=zh (Blk.later (uC w _ _) hb1 (by simp;omega));have HY:=zh (Blk.later (xB w _ _) hb1 (by simp));have px:=HX.out.cell 0;have py:=HY.out.cell 0;have fy:=HY.out.frozen 0;have zy:=HY.out.lt;simp at px py;clear hb1;cases t0
 · have HE:Hid (PB=(1,[])):=by unfold Hid;rw[HB.out];rfl
   go_wp2_with fail;refine bodyPost_ret (v:=.tuple #[.agg #[.slice none 0 0],.int .i64 1]) (by simp[results,Tryz.results16,go_sem,py]) rfl ?_;exact⟨_,by rw[HE.out],by rw[HE.out];exact wH _ _,HB1.out.setCell (show w.heap.size≤w.heap.size+1 by omega) _⟩
 by_cases h120:120<m
 · have HE:Hid (PB=(4,[])):=by unfold Hid;rw[HB.out,if_pos rfl,if_pos h120]
   go_wp2_with fail;refine bodyPost_ret (v:=.tuple #[.agg #[.slice none 0 0],.int .i64 4]) (by simp[results,Tryz.results16,go_sem,py]) rfl ?_;exact⟨_,by rw[HE.out],by rw[HE.out];exact wH _ _,HB1.out.setCell (show w.heap.size≤w.heap.size+1 by omega) _⟩
 have HE:Hid (PB=zB0 fs cs):=by unfold Hid;rw[HB.out,if_pos rfl,if_neg h120]
 clear HB;go_wp2_with fail;refine(HKO.out _ HB1.out).mono ?_;rintro e w2 ⟨v2,rfl,hN2,hb2⟩;have HB2:=zh (HB1.out.later hb2);have HY2:=zh (HY.out.later hb2 HY.out.lt);have hw2:=HB2.out.size;obtain⟨A2,cap2,rfl,hcap2,_⟩:=hN2.reads;have HN2:=zh (hN2.base HB1.out.size);clear px py fy zy hb2 hN2 HX HY HKT HKO;have hz2:=HY2.out.lt;have HBX:=zh (Below.new w2 (.cells #[.slice A2 fs.length cap2] 26));go_wp2_with fail;go_loopw [7] (fun i wr=>∃(k:Nat) (v:Value) (gs:List NodeD),k≤m∧i=.int .i64 k∧Hid (Blk wr w2.heap.size 26 #[v])∧Hid (Blk wr (w.heap.size+1) 26 #[.slice none 0 0])∧Hid (NodesO wr w.heap.size v gs)∧Hid (xA gs=true)∧Hid (Below w.heap.size w wr)∧Hid (PB=zB0 gs (cs.drop k))) (fun i _=>m-(intOf i).toNat);case atStart=>exact⟨0,_,fs,Nat.zero_le _,rfl,heap_alloc_new w2 _,HY2.out.alloc _,HN2.out.later HBX.out,HT.out,HB2.out.later HBX.out,by unfold Hid;rw[List.drop_zero];exact HE.out⟩
 case round =>
  obtain⟨k,v,gs,hk,rfl,HV,HYR,HN,HTG,HBW,HPB⟩:=hrel;obtain⟨A3,cap3,rfl,hc3,hN3⟩:=HN.out.reads;have pv:=HV.out.cell 0;have zv:=HV.out.lt;have fv:=HV.out.frozen 0;have py:=HYR.out.cell 0;have zy:=HYR.out.lt;have fy:=HYR.out.frozen 0;simp at pv py;clear HBX HY2 HN2;by_cases hlt:k<m
  · obtain⟨bb,o,rfl,hbB,hc⟩:=(HLC.out.later HBW.out).2 (by omega);obtain⟨c0,c1,c2,c3,k0,k1,k2,k3,hr⟩:=hc k hlt;clear hc;have hl:k<cs.length:=by rw[HLL.out];exact hlt
    have hsd:=HSD.out _ (zFB cs k hl);have hda:=zIp cs k hl;generalize cs.getD k default=d at *;have HKD:=zh (fun W (hW:Below wr.heap.size wr W)=>zGn A3 gs.length cap3 c0 c1 c2 c3 gs d W (hN3.later hW) hc3 (xM HTG.out) (hr.later hW) hsd);have HDA:Hid (PB=if (vI gs d).1=0 then zB0 (vI gs d).2 (cs.drop (k+1)) else ((vI gs d).1,[])):=by unfold Hid;rw[HPB.out,hda];rfl
    have HDT:Hid ((vI gs d).1=0→xA (vI gs d).2=true):=zAW;clear hda hsd;generalize vI gs d=R at *;obtain⟨r1,r2⟩:=R;obtain⟨rfl,rfl,⟨S,m1,q1,rfl,_,_⟩,rfl⟩:=hr;have hxx:w2.heap.size≠w.heap.size+1:=by omega
    go_wp2_with fail
    go_region_law (first
     | (go_simp
        go_at_call 66;refine(HKD.out _ (by exact(Below.refl _ _).drew)).mono ?_;rintro e w4 ⟨v4,rfl,hN4,hb4'⟩;have hb4:=zD0 hb4';obtain⟨A4,cap4,rfl,hcap4,_⟩:=hN4.reads;have HW:=zh (Below.new w4 (.cells #[.slice A4 r2.length cap4] 26));have H8X:Hid (Blk (w4.alloc (.cells #[.slice A4 r2.length cap4] 26)) w4.heap.size 26 #[.slice A4 r2.length cap4]):=heap_alloc_new _ _;have HVX:=zh ((HV.out.later hb4 HV.out.lt).alloc (.cells #[.slice A4 r2.length cap4] 26));have HYX:=zh ((HYR.out.later hb4 HYR.out.lt).alloc (.cells #[.slice A4 r2.length cap4] 26));have HNX:Hid (NodesO (w4.alloc (.cells #[.slice A4 r2.length cap4] 26)) w.heap.size (.slice A4 r2.length cap4) r2):=(hN4.base HBW.out.size).later HW.out;have HBX:=zh ((HBW.out.later hb4).later HW.out);have z8:=H8X.out.lt
        clear hb4 hb4' hN4)
     | (go_simp
        go_at_call 66;refine(HKD.out _ (by exact(Below.new _ _).drew)).mono ?_;rintro e w4 ⟨v4,rfl,hN4,hb4'⟩;have hb4:=zD0 hb4';obtain⟨A4,cap4,rfl,hcap4,_⟩:=hN4.reads;have h8:Blk w4 wr.heap.size 26 #[.slice none 0 0]:=Blk.later (heap_alloc_new wr _) hb4 (by simp);have p8:=h8.cell 0;have f8:=h8.frozen 0;have z8:=h8.lt;simp at p8;have hbW:=(Below.new wr (.cells #[.slice none 0 0] 26)).later hb4;have H8X:Hid (Blk (w4.setCell ⟨wr.heap.size,0,none⟩ (.slice A4 r2.length cap4)) wr.heap.size 26 #[.slice A4 r2.length cap4]):=h8.set_ 0 _;have HVX:=zh ((HV.out.later hbW HV.out.lt).far (p:=⟨wr.heap.size,0,none⟩) (show w2.heap.size≠wr.heap.size by omega) (.slice A4 r2.length cap4));have HYX:=zh ((HYR.out.later hbW HYR.out.lt).far (p:=⟨wr.heap.size,0,none⟩) (show w.heap.size+1≠wr.heap.size by omega) (.slice A4 r2.length cap4));have HNX:Hid (NodesO (w4.setCell ⟨wr.heap.size,0,none⟩ (.slice A4 r2.length cap4)) w.heap.size (.slice A4 r2.length cap4) r2):=(hN4.base (by have:=HBW.out.size;simp;omega)).setBlk h8 (by decide) (by decide);have HBX:=zh ((HBW.out.later hbW).setCell (p:=⟨wr.heap.size,0,none⟩) HBW.out.size (.slice A4 r2.length cap4))
        clear hb4 hb4' hN4 h8 hbW))
    all_goals
     have p8:=H8X.out.cell 0;have z8:=H8X.out.lt;have pv:=HVX.out.cell 0;have fv:=HVX.out.frozen 0;have zv:=HVX.out.lt;have py:=HYX.out.cell 0;have fy:=HYX.out.frozen 0;have zy:=HYX.out.lt;simp at p8 pv py;by_cases hr0:r1=0
     · have HE2:Hid (PB=zB0 r2 (cs.drop (k+1))):=by unfold Hid;rw[HDA.out,if_pos hr0]
       have HT2:=zh (HDT.out hr0);subst hr0;go_wp2_with fail;go_roundw;case rel=>exact⟨k+1,_,r2,by omega,by go_num,HVX.out.set_ 0 _,HYX.out.far (show w.heap.size+1≠w2.heap.size by omega) _,HNX.out.setBlk HVX.out (by decide) (by decide),HT2.out,HBX.out.setCell (show w.heap.size≤w2.heap.size by omega) _,HE2.out⟩
       case measure=>simp[intOf];omega
     · have HE2:Hid (PB=(r1,[])):=by unfold Hid;rw[HDA.out,if_neg hr0]
       have hb0:(r1==(0:Int))=false:=by rw[beq_eq_false_iff_ne];exact hr0
       go_wp2_with fail;refine bodyPost_ret (v:=.tuple #[.agg #[.slice none 0 0],.int .i64 r1]) (by simp[results,Tryz.results16,go_sem,py]) rfl ?_;exact⟨_,by rw[HE2.out],by rw[HE2.out];exact wH _ _,HBX.out.setCell (show w.heap.size≤w.heap.size+1 by omega) _⟩
  · obtain rfl:k=m:=by omega
    have HE2:Hid (PB=(0,gs)):=by unfold Hid;rw[HPB.out,List.drop_of_length_le (by rw[HLL.out];omega)];rfl
    have hxx:w2.heap.size≠w.heap.size+1:=by omega
    go_wp2_with fail;refine bodyPost_ret (v:=.tuple #[.agg #[.slice A3 _ cap3],.int .i64 0]) (by simp[results,Tryz.results16,go_sem,py];try first | exact rfl | exact⟨rfl,rfl⟩) rfl ?_;exact⟨_,by rw[HE2.out],by rw[HE2.out];exact HN.out.setBlk HYR.out (by decide) (by decide),HBW.out.setCell (show w.heap.size≤w.heap.size+1 by omega) _⟩
end Go.Proofs.YtgmaamnofhmecaaGreatDoor
namespace Go.Proofs.YtgmaamnofhmecaaGreatDoor
open Go.RowKit
theorem zJR (l:List ByteArray):(l.any fun s=>!yJ s)=!(l.all yJ):=by
 induction l with
 | nil=>rfl
 | cons a r ih=>simp only[List.any_cons,List.all_cons,Bool.not_and,ih]
theorem zHS (s:ByteArray) (w:World) (hs:s.size≤1048576) :
 Calls Tryz.prog 197 #[.string s] w fun e w'=>e=.returned (.bool (!yJ s))∧Below w.heap.size w w':=by
 have HK:=zh (zIu s w hs);generalize yJ s=y at *;go_enter Tryz.func197,Tryz.ntmps197;go_wp2_with fail;refine HK.out.mono ?_;rintro e w1 ⟨rfl,hb1⟩;have HB:=zh hb1;clear hb1;go_wp2_with fail;go_ret;exact⟨rfl,HB.out⟩
set_option maxRecDepth 100000 in
theorem zFm (b0 b1 b2 b3 r0:Value) (b:TableD) (d:List ByteArray) (w:World) (hb:TableR w w.heap.size b0 b1 b2 b3 b) (h:RowR w w.heap.size r0 d) (hs:wL d) (hpos:0<b.cols.length) :
 Calls Tryz.prog 127 #[.agg #[b0,b1,b2,b3],.agg #[r0]] w fun e w'=>e=.returned (.bool (vC b.cols d))∧Below w.heap.size w w':=by
 obtain⟨rfl,rfl,⟨A2,n2,p2,rfl,s2,k2⟩,⟨A3,n3,p3,rfl,s3,k3⟩⟩:=hb;obtain⟨A,n,cap,rfl,hS,hcap⟩:=h;have HR:Hid (vC b.cols d=(decide (n=n2)&&(decide (d.getD 0 ByteArray.empty≠⟨#[]⟩)&&d.all yJ))):=by unfold Hid vC;rw[hS.1,s2.1]
 rw[s2.1]at hpos;have hn:n≤1048576:=by rw[←hS.1];exact hs.1
 have HSS:=zh hS;have HKf:=zh (fun W (hW:Below w.heap.size w W)=>zCQ 197 #[] (fun s=>!yJ s) A n cap d W (hS.later hW) hn (enters_of Tryz.func197 (by kernel_rfl) rfl) (fun s hss W' _=>zHS s W' (hs.2 s hss)));rw[zJR]at HKf;have HB0:=zh ((Below.new w (.cells #[.string b.name,.string b.glob,.slice A2 n2 p2,.slice A3 n3 p3] 29)).later (Below.new _ (.cells #[.slice A n cap] 31)));clear s2 s3 hS hs;generalize vC b.cols d=R at *;generalize b.name=nm at *;generalize b.glob=gl at *;generalize d.all yJ=y at *;go_enter Tryz.func127,Tryz.ntmps127;by_cases hlen:n=n2
 case neg =>
  have HE:Hid (R=false):=by unfold Hid;rw[HR.out,decide_eq_false hlen];rfl
  have hb3:((n:Int)==(n2:Int))=false:=by rw[beq_eq_false_iff_ne];omega
  have hb4:(n==n2)=false:=by rw[beq_eq_false_iff_ne];omega
  have hb5:((n:Int) != (n2:Int))=true:=by rw[bne,hb3];rfl
  clear hlen HR;go_wp2_with fail;go_ret;exact⟨zA0 HE.out.symm,HB0.out⟩
 subst hlen;obtain⟨bk,o,rfl,hbk,hcell⟩:=(HSS.out.later HB0.out).2 hpos;have hck:=hcell 0 hpos;rw[Nat.add_zero]at hck;clear hcell;have hn0:(0:Int)<(n:Int):=by omega
 generalize hd0:d.getD 0 ByteArray.empty=s0 at *;by_cases h0:s0=⟨#[]⟩
 · have HE:Hid (R=false):=by unfold Hid;rw[HR.out,decide_eq_false (show ¬(s0≠⟨#[]⟩) from fun hh=>hh h0)];simp
   subst h0;clear HR;go_wp2_with fail;go_ret;exact⟨zA0 HE.out.symm,HB0.out⟩
 have HE:Hid (R=y):=by unfold Hid;rw[HR.out,decide_eq_true h0];simp
 have hbe:=vE h0;have hbe3:=zBp h0;clear h0 HR hd0;go_wp2_with fail;refine(HKf.out _ HB0.out).mono ?_;rintro e w1 ⟨rfl,hb1⟩;have HB1:=zh (HB0.out.later hb1);clear hb1;cases y
 all_goals
  go_wp2_with fail;go_ret;exact⟨zA0 HE.out.symm,HB1.out⟩
end Go.Proofs.YtgmaamnofhmecaaGreatDoor
namespace Go.Proofs
open Go.Shelf
def Tryz.lays156_ren:Go.Shelf.Ren:=⟨fun | 156=>204 | 165=>247 | 166=>248 | 169=>208 | 240=>276 | 241=>277 | 276=>298 | 277=>299 | n=>n,fun | 31=>27 | 9=>9 | 3=>3 | 4=>4 | 0=>0 | 20=>20 | 72=>188 | 76=>216 | 70=>186 | 37=>22 | 75=>215 | 127=>221 | 164=>245 | 5=>5 | 80=>190 | n=>n,fun | n=>n⟩
theorem Tryz.lays156:Go.Proofs.Lays.n156 Tryz.prog Tryz.lays156_ren:={
 mixed:=by kernel_rfl
 f156:=Tryz.func204.trans (congrArg some (by kernel_rfl))
 f165:=Tryz.func247.trans (congrArg some (by kernel_rfl))
 f166:=Tryz.func248.trans (congrArg some (by kernel_rfl))
 f169:=Tryz.func208.trans (congrArg some (by kernel_rfl))
 f240:=Tryz.func276.trans (congrArg some (by kernel_rfl))
 f241:=Tryz.func277.trans (congrArg some (by kernel_rfl))
 f276:=Tryz.func298.trans (congrArg some (by kernel_rfl))
 f277:=Tryz.func299.trans (congrArg some (by kernel_rfl))
 t0:=Tryz.underlying0
 a0:=Tryz.isAgg0
 z0:=Tryz.sizeOf0
 v0:=Tryz.zeroValue0
 t3:=Tryz.underlying3
 a3:=Tryz.isAgg3
 z3:=Tryz.sizeOf3
 v3:=Tryz.zeroValue3
 t4:=Tryz.underlying4
 a4:=Tryz.isAgg4
 z4:=Tryz.sizeOf4
 v4:=Tryz.zeroValue4
 t9:=Tryz.underlying9
 a9:=Tryz.isAgg9
 z9:=Tryz.sizeOf9
 v9:=Tryz.zeroValue9
 t20:=Tryz.underlying20
 a20:=Tryz.isAgg20
 z20:=Tryz.sizeOf20
 v20:=Tryz.zeroValue20
 t31:=Tryz.underlying27
 a31:=Tryz.isAgg27
 z31:=Tryz.sizeOf27
 v31:=Tryz.zeroValue27
 t37:=Tryz.underlying22
 a37:=Tryz.isAgg22
 z37:=Tryz.sizeOf22
 v37:=Tryz.zeroValue22
 t70:=Tryz.underlying186
 a70:=Tryz.isAgg186
 z70:=Tryz.sizeOf186
 v70:=Tryz.zeroValue186
 t72:=Tryz.underlying188
 a72:=Tryz.isAgg188
 z72:=Tryz.sizeOf188
 v72:=Tryz.zeroValue188
 t75:=Tryz.underlying215
 a75:=Tryz.isAgg215
 z75:=Tryz.sizeOf215
 v75:=Tryz.zeroValue215
 t76:=Tryz.underlying216
 a76:=Tryz.isAgg216
 z76:=Tryz.sizeOf216
 v76:=Tryz.zeroValue216
 t127:=Tryz.underlying221
 a127:=Tryz.isAgg221
 z127:=Tryz.sizeOf221
 v127:=Tryz.zeroValue221
 t164:=Tryz.underlying245
 a164:=Tryz.isAgg245
 z164:=Tryz.sizeOf245
 v164:=Tryz.zeroValue245 }
theorem Tryz.Builder_Extra_156:Builder.Extra Tryz.prog Tryz.lays156_ren:={
 sizeBuilder:=by kernel_rfl
 liesBuilder:=by kernel_rfl
 t5:=Tryz.underlying5
 a5:=Tryz.isAgg5
 z5:=Tryz.sizeOf5
 v5:=Tryz.zeroValue5
 infoByte:=by kernel_rfl
 cellsByte:=by kernel_rfl
 sizeByte:=by kernel_rfl
 neB5:=by decide }
open Go.RowKit in
theorem Tryz.strings_Join_none (a:Option Addr) (c:Nat) (sep:ByteArray) (w:World) :
 Calls Tryz.prog 204 #[.slice a 0 c,.string sep] w fun e w'=>e=.returned (.string ⟨#[]⟩)∧w'=w:=Any.strings_Join_none Tryz.lays156 Tryz.Builder_Extra_156 a c sep w
open Go.RowKit in
theorem Tryz.strings_Join (bk o c:Nat) (xs:List ByteArray) (sep:ByteArray) (w:World) (hcells:∀(j:Nat) x,xs[j]?=some x→w.cell? ⟨bk,o+j,none⟩=some (.string x)) (hbk:bk<w.heap.size) (hN:xs.length≤140737488355328) (hcap:xs.length≤c) (hlen:(Lib.join (xs.map (·.data.toList)) sep.data.toList).length≤140737488355328) :
 Calls Tryz.prog 204 #[.slice (some ⟨bk,o,none⟩) xs.length c,.string sep] w fun e w'=>e=.returned (.string ⟨(Lib.join (xs.map (·.data.toList)) sep.data.toList).toArray⟩)∧Below w.heap.size w w':=Any.strings_Join Tryz.lays156 Tryz.Builder_Extra_156 bk o c xs sep w hcells hbk hN hcap hlen
def Tryz.lays143_ren:Go.Shelf.Ren:=⟨fun | 143=>275 | 219=>297 | 217=>322 | 225=>323 | 224=>324 | 267=>325 | 266=>339 | 314=>340 | n=>n,fun | 9=>9 | 3=>3 | 4=>4 | 5=>5 | 46=>201 | 146=>280 | 51=>265 | n=>n,fun | 1=>0 | n=>n⟩
theorem Tryz.lays143:Go.Proofs.Lays.n143 Tryz.prog Tryz.lays143_ren:={
 mixed:=by kernel_rfl
 f143:=Tryz.func275.trans (congrArg some (by kernel_rfl))
 f217:=Tryz.func322.trans (congrArg some (by kernel_rfl))
 f219:=Tryz.func297.trans (congrArg some (by kernel_rfl))
 f224:=Tryz.func324.trans (congrArg some (by kernel_rfl))
 f225:=Tryz.func323.trans (congrArg some (by kernel_rfl))
 f266:=Tryz.func339.trans (congrArg some (by kernel_rfl))
 f267:=Tryz.func325.trans (congrArg some (by kernel_rfl))
 f314:=Tryz.func340.trans (congrArg some (by kernel_rfl))
 t3:=Tryz.underlying3
 a3:=Tryz.isAgg3
 z3:=Tryz.sizeOf3
 v3:=Tryz.zeroValue3
 t4:=Tryz.underlying4
 a4:=Tryz.isAgg4
 z4:=Tryz.sizeOf4
 v4:=Tryz.zeroValue4
 t5:=Tryz.underlying5
 a5:=Tryz.isAgg5
 z5:=Tryz.sizeOf5
 v5:=Tryz.zeroValue5
 t9:=Tryz.underlying9
 a9:=Tryz.isAgg9
 z9:=Tryz.sizeOf9
 v9:=Tryz.zeroValue9
 t46:=Tryz.underlying201
 a46:=Tryz.isAgg201
 z46:=Tryz.sizeOf201
 v46:=Tryz.zeroValue201
 t51:=Tryz.underlying265
 a51:=Tryz.isAgg265
 z51:=Tryz.sizeOf265
 v51:=Tryz.zeroValue265
 t146:=Tryz.underlying280
 a146:=Tryz.isAgg280
 z146:=Tryz.sizeOf280
 v146:=Tryz.zeroValue280
 g1:=by kernel_rfl }
open Go.RowKit Go.Lib in
theorem Tryz.strings_Index_one (s:ByteArray) (c:UInt8) (w:World) :
 Calls Tryz.prog 275 #[.string s,.string ⟨#[c]⟩] w fun e w'=>e=.returned (.int .i64 (Lib.indexByte s.data.toList c))∧w'=w:=Any.strings_Index_one Tryz.lays143 s c w
def Tryz.lays221_ren:Go.Shelf.Ren:=⟨fun | 221=>246 | 268=>273 | 138=>274 | 143=>275 | 195=>294 | 197=>295 | 218=>296 | 219=>297 | 260=>321 | 217=>322 | 225=>323 | 224=>324 | 267=>325 | 266=>339 | 314=>340 | n=>n,fun | 9=>9 | 3=>3 | 31=>27 | 4=>4 | 0=>0 | 105=>242 | 21=>21 | 5=>5 | 46=>201 | 119=>276 | 139=>279 | 138=>278 | 146=>280 | 51=>265 | n=>n,fun | 1=>0 | 3=>1 | 4=>2 | n=>n⟩
theorem Tryz.lays221:Go.Proofs.Lays.n221 Tryz.prog Tryz.lays221_ren:={
 mixed:=by kernel_rfl
 f138:=Tryz.func274.trans (congrArg some (by kernel_rfl))
 f143:=Tryz.func275.trans (congrArg some (by kernel_rfl))
 f195:=Tryz.func294.trans (congrArg some (by kernel_rfl))
 f197:=Tryz.func295.trans (congrArg some (by kernel_rfl))
 f217:=Tryz.func322.trans (congrArg some (by kernel_rfl))
 f218:=Tryz.func296.trans (congrArg some (by kernel_rfl))
 f219:=Tryz.func297.trans (congrArg some (by kernel_rfl))
 f221:=Tryz.func246.trans (congrArg some (by kernel_rfl))
 f224:=Tryz.func324.trans (congrArg some (by kernel_rfl))
 f225:=Tryz.func323.trans (congrArg some (by kernel_rfl))
 f260:=Tryz.func321.trans (congrArg some (by kernel_rfl))
 f266:=Tryz.func339.trans (congrArg some (by kernel_rfl))
 f267:=Tryz.func325.trans (congrArg some (by kernel_rfl))
 f268:=Tryz.func273.trans (congrArg some (by kernel_rfl))
 f314:=Tryz.func340.trans (congrArg some (by kernel_rfl))
 t0:=Tryz.underlying0
 a0:=Tryz.isAgg0
 z0:=Tryz.sizeOf0
 v0:=Tryz.zeroValue0
 t3:=Tryz.underlying3
 a3:=Tryz.isAgg3
 z3:=Tryz.sizeOf3
 v3:=Tryz.zeroValue3
 t4:=Tryz.underlying4
 a4:=Tryz.isAgg4
 z4:=Tryz.sizeOf4
 v4:=Tryz.zeroValue4
 t5:=Tryz.underlying5
 a5:=Tryz.isAgg5
 z5:=Tryz.sizeOf5
 v5:=Tryz.zeroValue5
 t9:=Tryz.underlying9
 a9:=Tryz.isAgg9
 z9:=Tryz.sizeOf9
 v9:=Tryz.zeroValue9
 t21:=Tryz.underlying21
 a21:=Tryz.isAgg21
 z21:=Tryz.sizeOf21
 v21:=Tryz.zeroValue21
 t31:=Tryz.underlying27
 a31:=Tryz.isAgg27
 z31:=Tryz.sizeOf27
 v31:=Tryz.zeroValue27
 t46:=Tryz.underlying201
 a46:=Tryz.isAgg201
 z46:=Tryz.sizeOf201
 v46:=Tryz.zeroValue201
 t51:=Tryz.underlying265
 a51:=Tryz.isAgg265
 z51:=Tryz.sizeOf265
 v51:=Tryz.zeroValue265
 t105:=Tryz.underlying242
 a105:=Tryz.isAgg242
 z105:=Tryz.sizeOf242
 v105:=Tryz.zeroValue242
 t119:=Tryz.underlying276
 a119:=Tryz.isAgg276
 z119:=Tryz.sizeOf276
 t138:=Tryz.underlying278
 a138:=Tryz.isAgg278
 z138:=Tryz.sizeOf278
 v138:=Tryz.zeroValue278
 t139:=Tryz.underlying279
 a139:=Tryz.isAgg279
 z139:=Tryz.sizeOf279
 v139:=Tryz.zeroValue279
 t146:=Tryz.underlying280
 a146:=Tryz.isAgg280
 z146:=Tryz.sizeOf280
 v146:=Tryz.zeroValue280
 g1:=by kernel_rfl
 g3:=by kernel_rfl
 g4:=by kernel_rfl }
end Go.Proofs
namespace Go.Proofs.YtgmaamnofhmecaaGreatDoor
open Go.RowKit
theorem zKa (s:ByteArray) (w:World) (hs:s.size≤1048576) :
 Calls Tryz.prog 203 #[.string s,.string ⟨#[94]⟩] w fun e w'=>∃v,e=.returned v∧Own.SubO w' w.heap.size v (zZ0 94 s)∧Below w.heap.size w w':=by
 have hle:=Lib.countB_le ⟨#[94]⟩ (by decide) s.size s (Nat.le_refl _);have hlen:=Lib.splitB_all ⟨#[94]⟩ (by decide) 0 _ s rfl
 have c:=Any.strings_genSplit_core Tryz.lays221 (by kernel_rfl) s ⟨#[94]⟩ 0 (-1) (Lib.countB s ⟨#[94]⟩+1) w (by omega) (by decide) (Nat.zero_le _)
  (fun x c hx=>(Tryz.strings_Index_one x 94 _).mono fun e w' ⟨he,hw⟩=>⟨by rw[he];show _=Ending.returned (Value.int .i64 (Lib.index x.data.toList [94]));rw[Lib.index_one],hw⟩)
  ((Tryz.strings_Count_one s 94 w).mono fun e w' ⟨he,hw⟩=>⟨by rw[he];show _=Ending.returned (Value.int .i64 ((Lib.count s.data.toList [94]:Nat):Int));rw[Lib.count_one];rfl,hw⟩)
  (by decide) (by decide) (by rw[if_pos (by decide)];omega)
 rw[Nat.add_sub_cancel,hlen]at c;have e2:Lib.cellsOf (Lib.splitB ⟨#[94]⟩ 0 (Lib.countB s ⟨#[94]⟩) s) (Lib.countB s ⟨#[94]⟩+1)=((Lib.splitB ⟨#[94]⟩ 0 (Lib.countB s ⟨#[94]⟩) s).map Value.string).toArray:=by rw[←hlen];exact Lib.cellsOf_full _
 rw[e2,zEb]at c;rw[zEb]at hlen;have HN:Hid (Lib.countB s ⟨#[94]⟩+1=(zZ0 94 s).length):=hlen.symm;rw[HN.out]at c;have hml:(zZ0 94 s).length≤s.size+1:=by rw[hlen];omega
 have HC:=zh c;clear c e2 hlen hle;generalize zZ0 94 s=ss at *;go_enter Tryz.func203,Tryz.ntmps203;go_wp2_with fail;refine HC.out.mono ?_;rintro e w1 ⟨rfl,rfl⟩;go_wp2_with fail;go_ret;exact⟨_,rfl,Own.sub_of_blk (ss:=ss) (wF rfl) (Nat.le_refl _) (by unfold maxLen;omega),Below.new _ _⟩
def uE (row:List ByteArray):ByteArray:=⟨(Lib.join ((row.drop 1).map (·.data.toList)) [94]).toArray⟩
theorem zJa (c:UInt8) (m:Nat):∀(l:List (List UInt8)),(∀x∈l,x.length≤m)→(Lib.join l [c]).length≤l.length*(m+1)
 | [],_=>by simp[Lib.join,List.intercalate]
 | [x],h=>by have:=h x (by simp);rw[xZ];simp;omega
 | x::y::r,h=>by have ih:=zJa c m (y::r) (fun z hz=>h z (List.mem_cons_of_mem _ hz));have:=h x (by simp);rw[yO];simp only[List.length_append,List.length_cons,List.length_nil]at ih ⊢;rw[Nat.add_mul (r.length+1)];omega
theorem zLa (row:List ByteArray) (h:∀s∈row,s.size≤1048576) (hl:row.length≤1048576):(Lib.join ((row.drop 1).map (·.data.toList)) [94]).length≤140737488355328:=by
 have h1:=zJa 94 1048576 ((row.drop 1).map (·.data.toList)) (fun x hx=>by
  obtain⟨s,hs,rfl⟩:=List.mem_map.1 hx;have:=h s (List.mem_of_mem_drop hs);rw[Lib.size_eq]at this
  exact this)
 have h2:((row.drop 1).map (·.data.toList)).length≤1048576:=by rw[List.length_map,List.length_drop];omega
 have h3:=Nat.mul_le_mul_right 1048577 h2;omega
theorem zEj (r0:Value) (row:List ByteArray) (w:World) (hr:RowR w w.heap.size r0 row) (hs:wL row) (hpos:0<row.length) :
 Calls Tryz.prog 130 #[.agg #[r0]] w fun e w'=>e=.returned (.string (uE row))∧Below w.heap.size w w':=by
 have HL:=zh (zLa row hs.2 hs.1);obtain⟨R0,rn,rc,rfl,hS,hrc⟩:=hr;have hln:=hS.1;have hn:rn≤1048576:=by rw[←hln];exact hs.1
 obtain⟨rb,ro,rfl,hrb,hcell⟩:=hS.2 (by omega);have HP:Hid (uE row=⟨(Lib.join ((row.drop 1).map (·.data.toList)) [94]).toArray⟩):=rfl;have HB0:=zh (Below.new w (.cells #[.slice (some ⟨rb,ro,none⟩) rn rc] 31));have HE0:Hid (rn=1→uE row=⟨#[]⟩):=fun h=>by unfold uE;rw[List.drop_of_length_le (by omega)];rfl
 have HK:Hid (∀W,Below w.heap.size w W→Calls Tryz.prog 204 #[.slice (some ⟨rb,ro+1,none⟩) (rn-1) (rc-1),.string ⟨#[94]⟩] W fun e w'=>e=.returned (.string (uE row))∧Below W.heap.size W w'):=fun W hW=>by
  have h:=Tryz.strings_Join rb (ro+1) (rc-1) (row.drop 1) ⟨#[94]⟩ W (fun j x hx=>by
   rw[List.getElem?_drop]at hx
   have hj:1+j<row.length:=by
    rcases Nat.lt_or_ge (1+j) row.length with h | h
    · exact h
    · rw[List.getElem?_eq_none h]at hx;cases hx
   have h1:=(hW.cell (p:=⟨rb,ro+(1+j),none⟩) hrb).trans (hcell (1+j) (by omega));rw[List.getD_eq_getElem?_getD,hx]at h1;rw[Nat.add_assoc]
   exact h1) (Nat.lt_of_lt_of_le hrb hW.size) (by rw[List.length_drop];omega) (by rw[List.length_drop];omega) HL.out
  rw[List.length_drop,hln]at h;exact h
 have hrn:(1:Int)≤(rn:Int):=by omega
 clear hS hcell hs;generalize uE row=R at *;go_enter Tryz.func130,Tryz.ntmps130;by_cases hc1:rc=1
 · obtain rfl:rn=1:=by omega
   subst hc1;have HE:=zh (HE0.out rfl);have HJ:=zh (fun W=>Tryz.strings_Join_none (some ⟨rb,ro,none⟩) 0 ⟨#[94]⟩ W);go_wp2_with fail;refine(HJ.out _).mono ?_;rintro e w1 ⟨rfl,rfl⟩;go_wp2_with fail;go_ret;exact⟨by rw[HE.out];rfl,HB0.out⟩
 · go_wp2_with fail;refine(HK.out _ HB0.out).mono ?_;rintro e w1 ⟨rfl,hb1⟩;have HB1:=zh (HB0.out.later hb1);clear hb1;go_wp2_with fail;go_ret;exact⟨rfl,HB1.out⟩
end Go.Proofs.YtgmaamnofhmecaaGreatDoor
