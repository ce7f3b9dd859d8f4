import Derived.Test.YtgmaamnofhmecaaGreatDoorV37
import Derived.Test.YtgmaamnofhmecaaGreatDoorV34
import Derived.Test.YtgmaamnofhmecaaGreatDoorV21
import Derived.Test.YtgmaamnofhmecaaGreatDoorV00
import Derived.Test.YtgmaamnofhmecaaGreatDoorV05
import Derived.Test.YtgmaamnofhmecaaGreatDoorV07
import Derived.Test.YtgmaamnofhmecaaGreatDoorV22
set_option maxHeartbeats 8000000
open Go.Lib renaming hid → zh
namespace Go.Proofs.YtgmaamnofhmecaaGreatDoor
open Go.RowKit
set_option linter.unusedVariables false
def zAg (c:ChgD):ByteArray:=zAS c.name c.subs
def zDO (d:NodeD):ByteArray:=zAS d.name d.subs
def zBe (fs:List NodeD) (b:TableD):List ChgD:=(wD fs b).2.flatMap (yG 1 b)
structure ItF (fs:List NodeD) (b:TableD):Prop where
 tab:zF0 b=true
 code:(wD fs b).1=0
 len:(wD fs b).2.length≤24
 row:∀r∈(wD fs b).2,vC b.cols r=true
 chg:∀c∈zBe fs b,wC c.name c.subs=true∧∀s∈c.subs,xR s
 idx:∀d∈fs,xE b.glob d=true→d.val=⟨#[]⟩∧wC d.name d.subs=true∧(∀s∈d.subs,xR s)∧zCy ((zBe fs b).map zAg) (zDO d)=true
 cnt:dc ((zBe fs b).map zAg).reverse=(fs.filter (xE b.glob)).length
theorem zKZ:xR iS:=by unfold xR iS;decide
theorem zCF {b:TableD} {r:List ByteArray} (hb:zF0 b=true) (hr:vC b.cols r=true) {c:ByteArray} (hc:c∈b.idx):∀s∈[iS,c,cellAt b.cols r c,r.getD 0 ByteArray.empty],xR s:=by
 intro s hs;have h1:=(vA hb).2.2.2.2 c hc;simp only[List.mem_cons,List.not_mem_nil,or_false]at hs;rcases hs with rfl | rfl | rfl | rfl
 · exact zKZ
 · exact zJB (zHo hb (by omega))
 · exact zFp (zCs hr _)
 · exact zFp (zCs hr 0)
theorem want_mem {fs:List NodeD} {b:TableD} {x:ChgD}:x∈zBe fs b↔∃r∈(wD fs b).2,∃c∈b.idx,cellAt b.cols r c≠⟨#[]⟩∧x=⟨1,b.glob,[iS,c,cellAt b.cols r c,r.getD 0 ByteArray.empty],⟨#[]⟩⟩:=by
 unfold zBe yG;rw[List.mem_flatMap];constructor
 · rintro⟨r,hr,hx⟩;obtain⟨c,hc,hx⟩:=List.mem_flatMap.1 hx;unfold zI0 at hx;split at hx
   · simp at hx
   · next hv=>rw[List.mem_singleton]at hx;exact⟨r,hr,c,hc,hv,hx⟩
 · rintro⟨r,hr,c,hc,hv,rfl⟩;refine⟨r,hr,List.mem_flatMap.2 ⟨c,hc,?_⟩⟩;unfold zI0;rw[if_neg hv];simp
theorem zKH {fs:List NodeD} {b:TableD} (hi:xH fs b=true):ItF fs b:=by
 have h0:=hi;unfold xH at h0;simp only[Bool.and_eq_true,decide_eq_true_eq]at h0;obtain⟨⟨ht,hb⟩,hc0,_⟩:=h0;have hro:wD fs b=uB b.cols (yA b.glob fs):=by unfold wD;rw[ht,hb];rfl
 have HR:=(zDP ht hb hc0).1 hi;obtain⟨hlen,hrow⟩:=zAJ hc0
 have hent:∀d,xE b.glob d=true→(d∈fs↔∃r∈(wD fs b).2,∃c∈b.idx,cellAt b.cols r c≠⟨#[]⟩∧d=ent b.glob (r.getD 0 ByteArray.empty) c (cellAt b.cols r c)):=fun d hd=>by
  rw[HR d hd,hro];constructor
  · rintro⟨k,c,v,⟨r,hr,rfl,rfl⟩,hc,hv,rfl⟩;exact⟨r,hr,c,hc,hv,rfl⟩
  · rintro⟨r,hr,c,hc,hv,rfl⟩;exact⟨_,_,_,⟨r,hr,rfl,rfl⟩,hc,hv,rfl⟩
 have hrow':∀r∈(wD fs b).2,vC b.cols r=true:=by rw[hro];exact hrow
 have hchg:∀c∈zBe fs b,wC c.name c.subs=true∧∀s∈c.subs,xR s:=fun x hx=>by obtain⟨r,hr,c,hc,hv,rfl⟩:=want_mem.1 hx;refine⟨?_,zCF hb (hrow' r hr) hc⟩;have h1:=(zCA (b:=b) (r:=r) 1 (.inl rfl) hb (hrow' r hr) _ (List.mem_flatMap.2 ⟨c,hc,by unfold zI0;rw[if_neg hv];exact List.mem_singleton.2 rfl⟩)).1;unfold vF at h1;rw[Bool.and_eq_true]at h1;exact h1.1
 have hidx:∀d∈fs,xE b.glob d=true→d.val=⟨#[]⟩∧wC d.name d.subs=true∧(∀s∈d.subs,xR s)∧zCy ((zBe fs b).map zAg) (zDO d)=true:=fun d hd hdi=>by obtain⟨r,hr,c,hc,hv,rfl⟩:=(hent d hdi).1 hd;refine⟨rfl,zCd ht hd,zCF hb (hrow' r hr) hc,isIn_iff.2 ?_⟩;rw[List.mem_map];exact⟨_,want_mem.2 ⟨r,hr,c,hc,hv,rfl⟩,rfl⟩
 refine⟨hb,by rw[hro];exact hc0,by rw[hro];exact hlen,hrow',hchg,hidx,?_⟩;rw[←List.length_map (f:=zDO)];refine zIq _ _ ?_ fun x=>?_
 · unfold List.Nodup;rw[List.pairwise_map];refine((zDN ht).filter _).imp_of_mem fun {x y} hx hy hst he=>?_;obtain⟨hx1,hx2⟩:=List.mem_filter.1 hx;obtain⟨hy1,hy2⟩:=List.mem_filter.1 hy;obtain⟨r,hr,c,hc,hv,rfl⟩:=(hent x hx2).1 hx1;obtain⟨r',hr',c',hc',hv',rfl⟩:=(hent y hy2).1 hy1;have:=zLg (nm:=b.glob) (ls:=[iS,c,cellAt b.cols r c,r.getD 0 ByteArray.empty]) (ms:=[iS,c',cellAt b.cols r' c',r'.getD 0 ByteArray.empty]) rfl (zCF hb (hrow' r hr) hc) (zCF hb (hrow' r' hr') hc') he;rw[yP (by rfl) this]at hst;cases hst
 · rw[List.mem_reverse,List.mem_map,List.mem_map];constructor
   · rintro⟨y,hy,rfl⟩;obtain⟨r,hr,c,hc,hv,rfl⟩:=want_mem.1 hy;have hdi:=zJg b.glob (r.getD 0 ByteArray.empty) c (cellAt b.cols r c);exact⟨_,List.mem_filter.2 ⟨(hent _ hdi).2 ⟨r,hr,c,hc,hv,rfl⟩,hdi⟩,rfl⟩
   · rintro⟨d,hd,rfl⟩;obtain⟨h1,h2⟩:=List.mem_filter.1 hd;obtain⟨r,hr,c,hc,hv,rfl⟩:=(hent d h2).1 h1;exact⟨_,want_mem.2 ⟨r,hr,c,hc,hv,rfl⟩,rfl⟩
end Go.Proofs.YtgmaamnofhmecaaGreatDoor
namespace Go.Proofs
open Go.Shelf
def Tryz.laysB_ren:Go.Shelf.Ren:=⟨fun | 167=>253 | 166=>248 | 169=>208 | 240=>276 | 241=>277 | 276=>298 | 277=>299 | n=>n,fun | 31=>27 | 9=>9 | 3=>3 | 4=>4 | 0=>0 | 20=>20 | 72=>188 | 76=>216 | 70=>186 | 37=>22 | 75=>215 | 127=>221 | 164=>245 | 5=>5 | 80=>190 | n=>n,fun | n=>n⟩
theorem Tryz.laysB167:Go.Proofs.Lays.n167 Tryz.prog Tryz.laysB_ren:={
 mixed:=by kernel_rfl
 f167:=Tryz.func253.trans (congrArg some (by kernel_rfl))
 f240:=Tryz.func276.trans (congrArg some (by kernel_rfl))
 f276:=Tryz.func298.trans (congrArg some (by kernel_rfl))
 t0:=Tryz.underlying0
 a0:=Tryz.isAgg0
 z0:=Tryz.sizeOf0
 v0:=Tryz.zeroValue0
 t4:=Tryz.underlying4
 a4:=Tryz.isAgg4
 z4:=Tryz.sizeOf4
 v4:=Tryz.zeroValue4
 t5:=Tryz.underlying5
 a5:=Tryz.isAgg5
 z5:=Tryz.sizeOf5
 v5:=Tryz.zeroValue5
 t9:=Tryz.underlying9
 a9:=Tryz.isAgg9
 z9:=Tryz.sizeOf9
 v9:=Tryz.zeroValue9
 t20:=Tryz.underlying20
 a20:=Tryz.isAgg20
 z20:=Tryz.sizeOf20
 v20:=Tryz.zeroValue20
 t37:=Tryz.underlying22
 a37:=Tryz.isAgg22
 z37:=Tryz.sizeOf22
 v37:=Tryz.zeroValue22
 t70:=Tryz.underlying186
 a70:=Tryz.isAgg186
 z70:=Tryz.sizeOf186
 v70:=Tryz.zeroValue186
 t72:=Tryz.underlying188
 a72:=Tryz.isAgg188
 z72:=Tryz.sizeOf188
 v72:=Tryz.zeroValue188
 t75:=Tryz.underlying215
 a75:=Tryz.isAgg215
 z75:=Tryz.sizeOf215
 v75:=Tryz.zeroValue215
 t164:=Tryz.underlying245
 a164:=Tryz.isAgg245
 z164:=Tryz.sizeOf245
 v164:=Tryz.zeroValue245 }
theorem Tryz.laysB166:Go.Proofs.Lays.n166 Tryz.prog Tryz.laysB_ren:={
 mixed:=by kernel_rfl
 f166:=Tryz.func248.trans (congrArg some (by kernel_rfl))
 f240:=Tryz.func276.trans (congrArg some (by kernel_rfl))
 f276:=Tryz.func298.trans (congrArg some (by kernel_rfl))
 t0:=Tryz.underlying0
 a0:=Tryz.isAgg0
 z0:=Tryz.sizeOf0
 v0:=Tryz.zeroValue0
 t3:=Tryz.underlying3
 a3:=Tryz.isAgg3
 z3:=Tryz.sizeOf3
 v3:=Tryz.zeroValue3
 t4:=Tryz.underlying4
 a4:=Tryz.isAgg4
 z4:=Tryz.sizeOf4
 v4:=Tryz.zeroValue4
 t9:=Tryz.underlying9
 a9:=Tryz.isAgg9
 z9:=Tryz.sizeOf9
 v9:=Tryz.zeroValue9
 t20:=Tryz.underlying20
 a20:=Tryz.isAgg20
 z20:=Tryz.sizeOf20
 v20:=Tryz.zeroValue20
 t37:=Tryz.underlying22
 a37:=Tryz.isAgg22
 z37:=Tryz.sizeOf22
 v37:=Tryz.zeroValue22
 t70:=Tryz.underlying186
 a70:=Tryz.isAgg186
 z70:=Tryz.sizeOf186
 v70:=Tryz.zeroValue186
 t72:=Tryz.underlying188
 a72:=Tryz.isAgg188
 z72:=Tryz.sizeOf188
 v72:=Tryz.zeroValue188
 t75:=Tryz.underlying215
 a75:=Tryz.isAgg215
 z75:=Tryz.sizeOf215
 v75:=Tryz.zeroValue215
 t164:=Tryz.underlying245
 a164:=Tryz.isAgg245
 z164:=Tryz.sizeOf245
 v164:=Tryz.zeroValue245 }
theorem Tryz.laysB169:Go.Proofs.Lays.n169 Tryz.prog Tryz.laysB_ren:={
 mixed:=by kernel_rfl
 f169:=Tryz.func208.trans (congrArg some (by kernel_rfl))
 t0:=Tryz.underlying0
 a0:=Tryz.isAgg0
 z0:=Tryz.sizeOf0
 v0:=Tryz.zeroValue0
 t3:=Tryz.underlying3
 a3:=Tryz.isAgg3
 z3:=Tryz.sizeOf3
 v3:=Tryz.zeroValue3
 t9:=Tryz.underlying9
 a9:=Tryz.isAgg9
 z9:=Tryz.sizeOf9
 v9:=Tryz.zeroValue9
 t37:=Tryz.underlying22
 a37:=Tryz.isAgg22
 z37:=Tryz.sizeOf22
 v37:=Tryz.zeroValue22
 t70:=Tryz.underlying186
 a70:=Tryz.isAgg186
 z70:=Tryz.sizeOf186
 v70:=Tryz.zeroValue186
 t72:=Tryz.underlying188
 a72:=Tryz.isAgg188
 z72:=Tryz.sizeOf188
 v72:=Tryz.zeroValue188
 t127:=Tryz.underlying221
 a127:=Tryz.isAgg221
 z127:=Tryz.sizeOf221
 v127:=Tryz.zeroValue221 }
theorem Tryz.Builder_Extra_B:Builder.Extra Tryz.prog Tryz.laysB_ren:={
 sizeBuilder:=by kernel_rfl
 liesBuilder:=by kernel_rfl
 t5:=Tryz.underlying5
 a5:=Tryz.isAgg5
 z5:=Tryz.sizeOf5
 v5:=Tryz.zeroValue5
 infoByte:=by kernel_rfl
 cellsByte:=by kernel_rfl
 sizeByte:=by kernel_rfl
 neB5:=by decide }
open Go.RowKit in
theorem Tryz.B_WriteByte (B b:Nat) (bs:List Value) (c:Int) (w:World) (h:Lib.IsBuilder 188 5 B b bs w) (hlen:bs.length+1≤140737488355328) (hBw:B≤w.heap.size) :
 Calls Tryz.prog 253 #[.pointer (some ⟨b,0,none⟩),.int .u8 c] w fun e w'=>e=.returned .nilIface∧(Lib.BuilderAt 188 5 B b (.pointer (some ⟨b,0,none⟩)) (bs++[.int .u8 c]) w'∧Below B w w'):=Any.Builder_WriteByte Tryz.laysB167 Tryz.Builder_Extra_B B b bs c w h hlen hBw
open Go.RowKit in
theorem Tryz.B_WriteString (B b:Nat) (bs:List Value) (s:ByteArray) (w:World) (h:Lib.IsBuilder 188 5 B b bs w) (hlen:bs.length+s.size≤140737488355328) (hBw:B≤w.heap.size) :
 Calls Tryz.prog 248 #[.pointer (some ⟨b,0,none⟩),.string s] w fun e w'=>e=.returned (.tuple #[.int .i64 s.size,.nilIface])∧(Lib.BuilderAt 188 5 B b (.pointer (some ⟨b,0,none⟩)) (bs++Lib.strCells s) w'∧Below B w w'):=Any.Builder_WriteString Tryz.laysB166 Tryz.Builder_Extra_B B b bs s w h hlen hBw
open Go.RowKit in
theorem Tryz.B_String (B b:Nat) (l:List UInt8) (w:World) (h:Lib.IsBuilder 188 5 B b (Lib.byteCells l) w) (hBw:B≤w.heap.size) :
 Calls Tryz.prog 208 #[.pointer (some ⟨b,0,none⟩)] w fun e w'=>e=.returned (.string ⟨l.toArray⟩)∧Below B w w':=Any.Builder_String_any Tryz.laysB169 Tryz.Builder_Extra_B B b l w h hBw
end Go.Proofs
namespace Go.Proofs.YtgmaamnofhmecaaGreatDoor
open Go.RowKit Go.Lib
set_option linter.unusedVariables false
theorem zIs {s:ByteArray} (h:xR s):Lib.countByte s.data.toList 0=0:=List.count_eq_zero.2 h
theorem zDI (s:ByteArray) (w:World) (h:xR s) :
 Calls Tryz.prog 254 #[.string s,.string ⟨#[0]⟩,.string ⟨#[0,255]⟩] w fun e w'=>e=.returned (.string s)∧w'=w:=by
 have HC:Hid (∀W,Calls Tryz.prog 274 #[.string s,.string ⟨#[0]⟩] W fun e w'=>e=.returned (.int .i64 0)∧w'=W):=fun W=>by have h1:=Tryz.strings_Count_one s 0 W;rw[zIs h]at h1;exact h1
 have HR:Hid (∀W,Calls Tryz.prog 283 #[.string s,.string ⟨#[0]⟩,.string ⟨#[0,255]⟩,.int .i64 (-1)] W fun e w'=>e=.returned (.string s)∧w'=W):=fun W=>by go_enter Tryz.func283,Tryz.ntmps283;go_wp2_with fail;refine(HC.out _).mono ?_;rintro e w1 ⟨rfl,rfl⟩;go_wp2_with fail;go_ret;exact⟨rfl,rfl⟩
 go_enter Tryz.func254,Tryz.ntmps254;go_wp2_with fail;refine(HR.out _).mono ?_;rintro e w1 ⟨rfl,rfl⟩;go_wp2_with fail;go_ret;exact⟨rfl,rfl⟩
theorem zFJ {B b:Nat} {bs:List Value} {p:Value} {w w':World} (h:BuilderAt 188 5 B b p bs w) (hb:Below w.heap.size w w'):BuilderAt 188 5 B b p bs w':=by
 have hlt:=h.lt;obtain⟨h1,v,h2,h3,h4⟩:=h;exact⟨h1,v,Blk.later h2 hb hlt,Own.own_later h3 hb,h4⟩
theorem zFy {B b:Nat} {bs:List Value} {w w':World} (h:IsBuilder 188 5 B b bs w) (hb:Below w.heap.size w w'):IsBuilder 188 5 B b bs w':=h.elim (fun x=>.inl (zFJ x hb)) (fun x=>.inr (zFJ x hb))
theorem zLV {B b N k:Nat} {bs:List Value} {p:Value} {c:Int} {w:World} (h:BuilderAt 188 5 B b p ((bs++Go.Lib.byteCells (1::(be8 N).take k))++[.int .u8 c]) w) (hk:k<8) (hc:c=(((N / 2 ^ (56-8*k)) % 256:Nat):Int)):BuilderAt 188 5 B b p (bs++Go.Lib.byteCells (1::(be8 N).take (k+1))) w:=by
 have e:bs++Go.Lib.byteCells (1::(be8 N).take (k+1))=(bs++Go.Lib.byteCells (1::(be8 N).take k))++[.int .u8 c]:=by
  have h2:((UInt8.ofNat ((N / 2 ^ (56-8*k)) % 256)).toNat:Int)=c:=by rw[hc,UInt8.toNat_ofNat'];have:=Nat.mod_lt (N / 2 ^ (56-8*k)) (show 0<256 by decide);rw[Nat.mod_eq_of_lt (a:=N / 2 ^ (56-8*k) % 256) (by simpa using this)]
  rw[zLt N k hk,Go.Lib.byteCells,Go.Lib.byteCells,List.map_cons,List.map_cons,List.map_append,List.map_cons,List.map_nil,h2];simp
 rw[e];exact h
set_option maxRecDepth 100000 in
theorem zHX (b:Nat) (bs:List Value) (s:ByteArray) (w0 w:World) (h:IsBuilder 188 5 w0.heap.size b bs w) (hp:xR s) (hs:s.size≤1048576) (htab:vV w0) (hb0:Below w0.heap.size w0 w) (hlen:bs.length≤1000000) :
 Calls Tryz.prog 207 #[.pointer (some ⟨b,0,none⟩),.string s] w fun e w'=>e=.returned (.tuple #[])∧IsBuilder 188 5 w0.heap.size b (bs++Go.Lib.byteCells (uQ s)) w'∧Below w0.heap.size w w':=by
 have HK1:=zh (fun W (hW:Below w0.heap.size w0 W)=>zBC s W (zH0 htab hW) hs);have HK2:Hid (∀W,Calls Tryz.prog 252 #[.string s] W fun e w'=>e=.returned (.int .i64 (yN s.data.toList))∧Below W.heap.size W w'):=fun W=>by have h:=zBO s W hs;rw[zFV]at h;exact h
 have HRP:=zh (fun W=>zDI s W hp);have hBz:=hb0.size;have HBL:=zh h;have HB0:=zh hb0;have HSE:Hid (uQ s=if zC0 s=true then 1::be8 (zDh s) else 2::(s.data.toList++[0,0])):=rfl;obtain⟨hn1,hn2,hn3⟩:=zLj s;have hw0:wrap64 (yN s.data.toList+1000000000000000000)=(zDh s:Int):=by unfold wrap64;omega
 have HSZ:Hid (s.data.toList.length=s.size):=by unfold Hid;rw[Array.length_toList];rfl
 clear h hb0 htab hp hn3;generalize zC0 s=cn at *;generalize zDh s=N at *;generalize yN s.data.toList=M at *;go_enter Tryz.func207,Tryz.ntmps207;go_wp2_with fail;refine(HK1.out _ HB0.out).mono ?_;rintro e w1 ⟨rfl,hb1⟩;have HBL1:=zh (zFy HBL.out hb1);have HB1:Hid (Below w0.heap.size w w1):=hb1.mono hBz;have hw1:=hb1.size;clear hb1;cases cn
 · go_wp2_with fail;refine(Tryz.B_WriteByte _ b bs 2 w1 HBL1.out (by omega) (by omega)).mono ?_;rintro e w2 ⟨rfl,hbl2,hb2⟩;have HB2:=zh (HB1.out.trans hb2);have HBL2:=zh hbl2;have hw2:=hb2.size;clear hb2 hbl2;go_wp2_with fail;refine(HRP.out _).mono ?_;rintro e w3 ⟨rfl,rfl⟩;go_wp2_with fail;refine(Tryz.B_WriteString _ b _ s _ (.inr HBL2.out) (by rw[List.length_append];simp only[List.length_cons,List.length_nil];omega) (by omega)).mono ?_;rintro e w4 ⟨rfl,hbl4,hb4⟩;have HB4:=zh (HB2.out.trans hb4);have HBL4:=zh hbl4;have hw4:=hb4.size;clear hb4 hbl4;go_wp2_with fail;refine(Tryz.B_WriteString _ b _ ⟨#[0,0]⟩ w4 (.inr HBL4.out) (by rw[List.length_append,List.length_append,strCells_length,show(⟨#[0,0]⟩:ByteArray).size=2 from rfl];simp only[List.length_cons,List.length_nil];omega) (by omega)).mono ?_;rintro e w5 ⟨rfl,hbl5,hb5⟩;have HB5:=zh (HB4.out.trans hb5);have HBL5:=zh hbl5;clear hb5 hbl5;go_wp2_with fail
   go_end0
   refine⟨rfl,.inr ?_,HB5.out⟩;have h:=HBL5.out;rw[HSE.out];simpa [Go.Lib.byteCells,strCells] using h
 · go_wp2_with fail;refine(HK2.out _).mono ?_;rintro e w2 ⟨rfl,hb2⟩;have HBL2:=zh (zFy HBL1.out hb2);have HB2:Hid (Below w0.heap.size w w2):=HB1.out.trans (hb2.mono (by omega));have hw2:=hb2.size;clear hb2;go_wp2_with fail;refine(Tryz.B_WriteByte _ b bs 1 _ HBL2.out (by omega) (by omega)).mono ?_;rintro e w3 ⟨rfl,hbl3,hb3⟩;have HB3:=zh (HB2.out.trans hb3);have HBL3:=zh hbl3;clear hb3 hbl3;go_wp2_with fail;go_loopw [5] (fun v wr=>∃k:Nat,k≤8∧v=.int .i64 (56-8*(k:Int))∧Hid (BuilderAt 188 5 w0.heap.size b (.pointer (some ⟨b,0,none⟩)) (bs++Go.Lib.byteCells (1::(be8 N).take k)) wr)∧Below w0.heap.size w wr) (fun v _=>(intOf v+8).toNat);case atStart=>exact⟨0,by omega,rfl,by unfold Hid;simpa [Go.Lib.byteCells] using HBL3.out,HB3.out⟩
   case round =>
    obtain⟨k,hk,rfl,HBLr,hbr⟩:=hrel;have HBr:=zh hbr;have hwr:=hbr.size;clear hbr;by_cases hk8:k=8
    · subst hk8;go_wp2_with fail;refine bodyPost_ret (results_none rfl _ _ _) rfl ?_;refine⟨rfl,.inr ?_,HBr.out⟩;have h:=HBLr.out;rw[HSE.out];exact h
    · have hcs:k=0∨k=1∨k=2∨k=3∨k=4∨k=5∨k=6∨k=7:=by omega
      rcases hcs with rfl | rfl | rfl | rfl | rfl | rfl | rfl | rfl
      all_goals
       go_wp2_with fail;refine(Tryz.B_WriteByte _ b _ _ _ (.inr HBLr.out) (by rw[List.length_append,Go.Lib.byteCells_length,List.length_cons,List.length_take];omega) (by omega)).mono ?_;rintro e w4 ⟨rfl,hbl4,hb4⟩;have HB4:=zh (HBr.out.trans hb4);have HBL4:=zh (zLV hbl4 (by decide) (by simp only[Nat.reduceMul,Nat.reduceSub,Nat.reducePow];omega));clear hb4 hbl4;go_wp2_with fail;go_roundw;case rel=>exact⟨_+1,by omega,by go_num,HBL4.out,HB4.out⟩
       case measure=>simp[intOf];try omega
set_option maxRecDepth 100000 in
theorem zHC (A:Option Addr) (n c:Nat) (ss:List ByteArray) (w:World) (h:Strs w w.heap.size A n ss) (hp:∀s∈ss,xR s) (hok:yK ss=true) (htab:vV w) :
 Calls Tryz.prog 146 #[.slice A n c] w fun e w'=>e=.returned (.string ⟨(ss.flatMap uQ).toArray⟩)∧Below w.heap.size w w':=by
 have hn4:ss.length≤4:=by unfold yK at hok;rw[Bool.and_eq_true,decide_eq_true_eq]at hok;exact hok.1
 have hsz:∀s∈ss,s.size≤24:=fun s hs=>by unfold yK at hok;rw[Bool.and_eq_true,List.all_eq_true]at hok;have:=hok.2 s hs;unfold xS at this;rw[Bool.and_eq_true,decide_eq_true_eq,decide_eq_true_eq]at this;exact this.2
 have HK1:Hid (∀W,Below w.heap.size w W→Calls Tryz.prog 168 #[.slice A n c] W fun e w'=>e=.returned (.bool (yK ss))∧Below W.heap.size W w'):=fun W hW=>(zEQ A n c ss W (h.later hW) (by rw[←h.1];omega) (fun s hs=>by have:=hsz s hs;omega)).mono fun e w' h=>⟨h.1,h.2 ▸ Below.refl _ _⟩;have HKP:=zh (fun b bs s W (hs:s∈ss) (hbl:IsBuilder 188 5 w.heap.size b bs W) (hW:Below w.heap.size w W) (hl:bs.length≤1000000)=>zHX b bs s w W hbl (hp s hs) (by have:=hsz s hs;omega) htab hW hl);have HS:=zh h;have HLN:=zh h.1;have HN4:=zh hn4
 have HEL:Hid (∀s∈ss,(uQ s).length≤30):=fun s hs=>by
  have h1:=hsz s hs;have h2:s.data.toList.length=s.size:=by rw[Array.length_toList];rfl
  unfold uQ;split
  · rw[List.length_cons,zDR];omega
  · rw[List.length_cons,List.length_append,h2];simp only[List.length_cons,List.length_nil];omega
 clear h hp htab hsz hn4;rw[hok]at HK1;clear hok;go_enter Tryz.func146,Tryz.ntmps146;go_wp2_with fail;refine(HK1.out _ (Below.refl _ _)).mono ?_;rintro e w1 ⟨rfl,hb1⟩;have HB1:=zh hb1;have hw1:=hb1.size;have HBn:=zh (hb1.later (Below.new w1 (.cells #[.pointer none,.slice none 0 0] 188)));have HBL0:Hid (IsBuilder 188 5 w.heap.size w1.heap.size (Go.Lib.byteCells []) (w1.alloc (.cells #[.pointer none,.slice none 0 0] 188))):=.inl ⟨hw1,.slice none 0 0,heap_alloc_new _ _,World.ownsRow_nil _ _ _ _,by simp[Value.ownBlock]⟩;clear hb1;go_wp2_with fail;go_loopw [11] (fun i wr=>∃k:Nat,k≤n∧i=.int .i64 k∧Hid (IsBuilder 188 5 w.heap.size w1.heap.size (Go.Lib.byteCells ((ss.take k).flatMap uQ)) wr)∧Hid (((ss.take k).flatMap uQ).length≤30*k)∧Below w.heap.size w wr) (fun i _=>n-(intOf i).toNat);case atStart=>exact⟨0,Nat.zero_le _,rfl,HBL0.out,by unfold Hid;simp,HBn.out⟩
 case round =>
  obtain⟨k,hk,rfl,HBL,HLE,hb⟩:=hrel;have HB:=zh hb;have hwr:=hb.size;clear hb;have hn4:n≤4:=by rw[←HLN.out];exact HN4.out
  by_cases hlt:k<n
  · obtain⟨sb,so,rfl,hsb,hsc⟩:=(HS.out.later HB.out).2 (by omega);have hck:=hsc k hlt;have hl:k<ss.length:=by rw[HLN.out];exact hlt
    have hmem:=Own.mem_of_getD ss k ByteArray.empty hl;have HEk:=zh (HEL.out _ hmem);have HKk:=zh (HKP.out w1.heap.size (Go.Lib.byteCells ((ss.take k).flatMap uQ)) _ wr hmem HBL.out HB.out (by rw[Go.Lib.byteCells_length];have:=HLE.out;omega));have HST:Hid ((ss.take (k+1)).flatMap uQ=(ss.take k).flatMap uQ++uQ (ss.getD k ByteArray.empty)):=by unfold Hid;rw[List.take_succ_eq_append_getElem hl,List.flatMap_append,List.getD_eq_getElem?_getD,List.getElem?_eq_getElem hl];simp
    clear hsc hl hmem;generalize ss.getD k ByteArray.empty=s at *;go_wp2_with fail;refine HKk.out.mono ?_;rintro e w2 ⟨rfl,hbl,hb2⟩;have HB2:=zh (HB.out.trans hb2);have HBL2:Hid (IsBuilder 188 5 w.heap.size w1.heap.size (Go.Lib.byteCells ((ss.take (k+1)).flatMap uQ)) w2):=by unfold Hid;rw[HST.out,Go.Lib.byteCells,List.map_append];exact hbl
    have HLE2:Hid (((ss.take (k+1)).flatMap uQ).length≤30*(k+1)):=by unfold Hid;have h1:=HLE.out;have h2:=HEk.out;rw[HST.out,List.length_append];omega
    clear hbl hb2;go_wp2_with fail;go_roundw;case rel=>exact⟨k+1,by omega,by go_num,HBL2.out,HLE2.out,HB2.out⟩
    case measure=>simp[intOf];omega
  · have HBE:Hid (IsBuilder 188 5 w.heap.size w1.heap.size (Go.Lib.byteCells (ss.flatMap uQ)) wr):=by have h:=HBL.out;rw[List.take_of_length_le (l:=ss) (by rw[HLN.out];omega)]at h;exact h
    go_wp2_with fail;refine(Tryz.B_String _ w1.heap.size _ wr HBE.out hwr).mono ?_;rintro e w2 ⟨rfl,hb2⟩;have HB2:=zh (HB.out.trans hb2);clear hb2;go_wp2_with fail;go_ret;exact⟨rfl,HB2.out⟩
end Go.Proofs.YtgmaamnofhmecaaGreatDoor
namespace Go.Proofs.YtgmaamnofhmecaaGreatDoor
open Go.RowKit Go.Lib
set_option linter.unusedVariables false
theorem zIZ (nm:ByteArray) (ss:List ByteArray):(nm++⟨#[1]⟩)++(⟨(ss.flatMap uQ).toArray⟩:ByteArray)=zAS nm ss:=by
 unfold zAS zLI;apply uP;simp[yD,ByteArray.data_append]
theorem zDg:∀(ss:List ByteArray),(∀s∈ss,s.size≤24)→(ss.flatMap uQ).length≤30*ss.length
 | [],_=>by simp
 | s::t,h=>by
   have h1:=h s (by simp);have h2:=zDg t (fun x hx=>h x (List.mem_cons_of_mem _ hx));have h3:s.data.toList.length=s.size:=by rw[Array.length_toList];rfl
   have h4:(uQ s).length≤30:=by
    unfold uQ;split
    · rw[List.length_cons,zDR];omega
    · rw[List.length_cons,List.length_append,h3];simp only[List.length_cons,List.length_nil];omega
   rw[List.flatMap_cons,List.length_append,List.length_cons];omega
set_option maxRecDepth 100000 in
theorem zKe (nm:ByteArray) (A:Option Addr) (n c:Nat) (ss:List ByteArray) (w:World) (h:Strs w w.heap.size A n ss) (hp:∀s∈ss,xR s) (hok:wC nm ss=true) (htab:vV w) :
 Calls Tryz.prog 69 #[.string nm,.slice A n c] w fun e w'=>e=.returned (.string (zAS nm ss))∧Below w.heap.size w w':=by
 have hs:xC nm=true∧yK ss=true:=by unfold wC at hok;rw[Bool.and_eq_true]at hok;exact hok
 have hnm:nm.size≤1048576:=by have:=hs.1;unfold xC at this;rw[Bool.and_eq_true,decide_eq_true_eq]at this;omega
 have hn4:ss.length≤4∧∀s∈ss,s.size≤24:=by have:=hs.2;unfold yK at this;rw[Bool.and_eq_true,decide_eq_true_eq,List.all_eq_true]at this;refine⟨this.1,fun s hs=>?_⟩;have h2:=this.2 s hs;unfold xS at h2;rw[Bool.and_eq_true,decide_eq_true_eq,decide_eq_true_eq]at h2;omega
 have HK1:Hid (∀W,Below w.heap.size w W→Calls Tryz.prog 145 #[.string nm,.slice A n c] W fun e w'=>e=.returned (.bool true)∧Below W.heap.size W w'):=fun W hW=>by have h1:=zBq nm A n c ss W hnm (h.later hW) (by rw[←h.1];omega) (fun s hs=>by have:=hn4.2 s hs;omega);rw[hok]at h1;exact h1.mono fun e w' h=>⟨h.1,h.2 ▸ Below.refl _ _⟩
 have HK2:=zh (fun W (hW:Below w.heap.size w W)=>zHC A n c ss W (h.later hW) hp hs.2 (zH0 htab hW));have HE:=zh (zIZ nm ss);have hpk:(⟨(ss.flatMap uQ).toArray⟩:ByteArray).size≤200:=by have h1:=zDg ss hn4.2;show(ss.flatMap uQ).toArray.size≤200;rw[List.size_toArray];omega
 have hn1:(nm++⟨#[1]⟩:ByteArray).size≤1048577:=by rw[ByteArray.size_append];show nm.size+1≤_;omega
 clear h hp hok htab hs hn4;generalize (⟨(ss.flatMap uQ).toArray⟩:ByteArray)=pk at *;go_enter Tryz.func69,Tryz.ntmps69;go_wp2_with fail;refine(HK1.out _ (Below.refl _ _)).mono ?_;rintro e w1 ⟨rfl,hb1⟩;have HB1:=zh hb1;clear hb1;go_wp2_with fail;refine(HK2.out _ HB1.out).mono ?_;rintro e w2 ⟨rfl,hb2⟩;have HB2:=zh (HB1.out.later hb2);clear hb2;go_wp2_with fail;go_ret;exact⟨by first | (rw[←HE.out];rfl) | (rw[←HE.out]),HB2.out⟩
end Go.Proofs.YtgmaamnofhmecaaGreatDoor
