import Derived.Test.YtfpcjhajjejpdaaGreatDoorZ40
import Derived.Test.YtfpcjhajjejpdaaGreatDoorZ22
import Derived.Test.YtfpcjhajjejpdaaGreatDoorZ21
import Derived.Test.YtfpcjhajjejpdaaGreatDoorZ16
import Derived.Test.YtfpcjhajjejpdaaGreatDoorZ33
import Derived.Test.YtfpcjhajjejpdaaGreatDoorZ17
import Derived.Deep.RegionHeld3
set_option maxHeartbeats 4000000
open Go.Lib renaming hid → zh
namespace Go.Proofs.YtfpcjhajjejpdaaGreatDoor
open Go.RowKit
set_option linter.unusedVariables false
set_option maxRecDepth 100000 in
theorem zCy (A:Option Addr) (n c:Nat) (b0 b1 b2 b3 c0 c1 c2 c3 c4 c5:Value) (fs:List NodeD) (b:TableD) (d:QueryD) (w:World) (ht:Nodes w w.heap.size A n fs) (hb:TableR w w.heap.size b0 b1 b2 b3 b) (h:QueryR w w.heap.size c0 c1 c2 c3 c4 c5 d) (hts:vF fs) (hbs:b.small) (hs:d.small) :
 Calls Tryz.prog 10 #[.agg #[.slice A n c],.agg #[b0,b1,b2,b3],.agg #[c0,c1,c2,c3,c4,c5]] w (zAA (zAf fs b d) w):=by
 have HK1:=zh (fun W (hW:Below w.heap.size w W)=>yL A n c fs W (ht.later hW) hts);have HK2:=zh (fun W (hW:Below w.heap.size w W)=>zGE b0 b1 b2 b3 c0 c1 c2 c3 c4 c5 b d W (hb.later hW) (h.later hW) hbs hs);have HK3:Hid (uA fs=true→vS b d=true→∀W (hW:Below w.heap.size w W),Calls Tryz.prog 49 #[.agg #[.slice A n c],.agg #[b0,b1,b2,b3]] W (zAA (yI b.cols (xB b.glob fs)) W)):=fun h1 h2 W hW=>by obtain⟨⟨f1,f2⟩,_⟩:=vZ h2;exact zGG A n c b0 b1 b2 b3 fs b W (ht.later hW) (hb.later hW) hts h1 f1 f2
 have HK4:Hid (vS b d=true→(yI b.cols (xB b.glob fs)).1=0→∀W (hW:Below w.heap.size w W) v,RowsI W w.heap.size v (yI b.cols (xB b.glob fs)).2→∃A4 n4 cap4,v=.slice A4 n4 cap4∧Calls Tryz.prog 50 #[.agg #[b0,b1,b2,b3],.agg #[c0,c1,c2,c3,c4,c5],.slice A4 n4 cap4] W (zCp (yY b d (yI b.cols (xB b.glob fs)).2) W)):=fun h2 h3 W hW v hv=>by obtain⟨⟨f1,f2⟩,f3,f4,f4',f5,f6⟩:=vZ h2;obtain⟨g1,g2⟩:=zBE f2 h3;obtain⟨A4,cap4,rfl,_,hrd⟩:=zW0 hv;exact⟨A4,_,cap4,rfl,zGD A4 _ cap4 b0 b1 b2 b3 c0 c1 c2 c3 c4 c5 b d _ W (hb.later hW) (h.later hW) hrd hbs hs (fun r hr=>(g2 r hr).1) g1 f3 f4 f4' f5 (fun r hr=>(g2 r hr).2)⟩
 have HR:Hid (zAf fs b d=if (uA fs&&vS b d)=true then (if (yI b.cols (xB b.glob fs)).1=0 then (0,yY b d (yI b.cols (xB b.glob fs)).2) else ((yI b.cols (xB b.glob fs)).1,[])) else (1,[])):=rfl;generalize uA fs=xt at *;generalize vS b d=xf at *;obtain⟨rfl,rfl,⟨A2,n2,p2,rfl,s2,k2⟩,⟨A3,n3,p3,rfl,s3,k3⟩⟩:=hb;obtain⟨rfl,⟨B1,m1,q1,rfl,t1,l1⟩,⟨B2,m2,q2,rfl,t2,l2⟩,rfl,rfl,rfl⟩:=h;clear s2 s3 t1 t2 ht hts hbs hs;generalize zAf fs b d=R at *;generalize hrt:yI b.cols (xB b.glob fs)=rt at *;clear hrt;generalize hmd:yY b d rt.2=md at *;clear hmd;generalize b.name=nm at *;generalize b.glob=gl at *;generalize d.table=tb at *;generalize d.order=od at *;generalize d.desc=ds at *;generalize d.limit=lm at *;have HB0:=zh (wJ w (.cells #[.slice A n c] 26) (.cells #[.string nm,.string gl,.slice A2 n2 p2,.slice A3 n3 p3] 29) (.cells #[.string tb,.slice B1 m1 q1,.slice B2 m2 q2,.string od,.bool ds,.int .i64 lm] 32));have HX0:=zh (zK0 w (.cells #[.slice A n c] 26) (.cells #[.string nm,.string gl,.slice A2 n2 p2,.slice A3 n3 p3] 29) (.cells #[.string tb,.slice B1 m1 q1,.slice B2 m2 q2,.string od,.bool ds,.int .i64 lm] 32));have HX1:=zh (uI w (.cells #[.slice A n c] 26) (.cells #[.string nm,.string gl,.slice A2 n2 p2,.slice A3 n3 p3] 29) (.cells #[.string tb,.slice B1 m1 q1,.slice B2 m2 q2,.string od,.bool ds,.int .i64 lm] 32));have HX2:=zh (zI0 w (.cells #[.slice A n c] 26) (.cells #[.string nm,.string gl,.slice A2 n2 p2,.slice A3 n3 p3] 29) (.cells #[.string tb,.slice B1 m1 q1,.slice B2 m2 q2,.string od,.bool ds,.int .i64 lm] 32));go_enter Tryz.func10,Tryz.ntmps10;go_wp2_with fail;refine(HK1.out _ HB0.out).mono ?_;rintro e w1 ⟨rfl,hb1⟩;have HB1:=zh (HB0.out.later hb1);have HY0:=zh (Blk.later HX0.out hb1 (by first | (simp;done) | (simp;omega)));have HY1:=zh (Blk.later HX1.out hb1 (by first | (simp;done) | (simp;omega)));have HY2:=zh (Blk.later HX2.out hb1 (by first | (simp;done) | (simp;omega)));clear hb1 HX0 HX1 HX2;cases xt
 · have HE:Hid (R=(1,[])):=by unfold Hid;rw[HR.out];rfl
   go_wp2_with fail;refine bodyPost_ret (v:=.tuple #[.slice (some ⟨_,0,none⟩) 0 0,.int .i64 _]) (by simp[results,Tryz.results10,go_sem];try exact⟨rfl,rfl⟩) rfl ?_;exact⟨_,by rw[HE.out],by rw[HE.out];exact vM _ _ HB1.out.size,HB1.out.later (Below.new _ _)⟩
 have p0:=HY0.out.cell;have p1:=HY1.out.cell;have p2':=HY2.out.cell;have z2:=HY2.out.lt;go_wp2_with fail;refine(HK2.out _ HB1.out).mono ?_;rintro e w2 ⟨rfl,hb2⟩;have HB2:=zh (HB1.out.later hb2);have HZ0:=zh (HY0.out.later hb2 HY0.out.lt);have HZ1:=zh (HY1.out.later hb2 HY1.out.lt);have HZ2:=zh (HY2.out.later hb2 HY2.out.lt);clear hb2 p0 p1 p2' z2 HY0 HY1 HY2;cases xf
 · have HE:Hid (R=(1,[])):=by unfold Hid;rw[HR.out];rfl
   go_wp2_with fail;refine bodyPost_ret (v:=.tuple #[.slice (some ⟨_,0,none⟩) 0 0,.int .i64 _]) (by simp[results,Tryz.results10,go_sem];try exact⟨rfl,rfl⟩) rfl ?_;exact⟨_,by rw[HE.out],by rw[HE.out];exact vM _ _ HB2.out.size,HB2.out.later (Below.new _ _)⟩
 have hRS:R=if rt.1=0 then (0,md) else (rt.1,[]):=by rw[HR.out];rfl
 have HRS:=zh hRS;have HK3':=zh (HK3.out (by first | rfl | trivial) (by first | rfl | trivial));have HK4':=zh (HK4.out (by first | rfl | trivial));clear hRS HR HK3 HK4;have p0:=HZ0.out.cell;have p1:=HZ1.out.cell;have p2':=HZ2.out.cell;go_wp2_with fail;refine(HK3'.out _ HB2.out).mono ?_;rintro e w3 ⟨v3,rfl,ho3,hb3⟩;have HB3:=zh (HB2.out.later hb3);have HO3:=zh (ho3.base HB2.out.size);have HW1:=zh (HZ1.out.later hb3 HZ1.out.lt);have HW2:=zh (HZ2.out.later hb3 HZ2.out.lt);clear ho3 hb3 p0 p1 p2' HZ0 HZ1 HZ2 HK3' HK1 HK2;have p1:=HW1.out.cell;have p2':=HW2.out.cell;obtain⟨rc,rs⟩:=rt;by_cases h0:rc=0
 · have HE:Hid (R=(0,md)):=by unfold Hid;rw[HRS.out,if_pos h0]
   obtain⟨A4,n4,cap4,rfl,hk4⟩:=HK4'.out h0 _ HB3.out _ HO3.out;have HM:=zh hk4;clear hk4 HK4' HRS HO3;subst h0;go_wp2_with fail;refine HM.out.mono ?_;rintro e w5 ⟨v5,rfl,ho5,hb5⟩;have HO5:=zh (ho5.base HB3.out.size);have HB5:=zh (HB3.out.later hb5);obtain⟨A5,cap5,rfl,_⟩:=zW0 ho5;clear ho5 hb5 p1 p2' HW1 HW2;go_wp2_with fail;refine bodyPost_ret (v:=.tuple #[.slice A5 _ cap5,.int .i64 _]) (by simp[results,Tryz.results10,go_sem];try exact⟨rfl,rfl⟩) rfl ?_;exact⟨_,by rw[HE.out],by rw[HE.out];exact HO5.out,HB5.out⟩
 · have HE:Hid (R=(rc,[])):=by unfold Hid;rw[HRS.out,if_neg h0]
   have i1:(rc==0)=false:=by simp[h0]
   have i2:(rc != 0)=true:=by simp[h0]
   obtain⟨A4,cap4,rfl,_⟩:=zW0 HO3.out;clear HK4' HRS HO3 p1 p2' HW1 HW2;go_wp2_with fail;refine bodyPost_ret (v:=.tuple #[.slice (some ⟨_,0,none⟩) 0 0,.int .i64 _]) (by simp[results,Tryz.results10,go_sem];try exact⟨rfl,rfl⟩) rfl ?_;exact⟨_,by rw[HE.out],by rw[HE.out];exact vM _ _ HB3.out.size,HB3.out.later (Below.new _ _)⟩
end Go.Proofs.YtfpcjhajjejpdaaGreatDoor
namespace Go.Proofs.YtfpcjhajjejpdaaGreatDoor
open Go.RowKit
set_option maxRecDepth 100000 in
theorem zER (b0 b1 b2 b3 c0 c1 c2:Value) (b:TableD) (d:NodeD) (w:World) (hb:TableR w w.heap.size b0 b1 b2 b3 b) (h:NodeR w w.heap.size c0 c1 c2 d) :
 Calls Tryz.prog 137 #[.agg #[b0,b1,b2,b3],.agg #[c0,c1,c2]] w fun e w'=>e=.returned (.bool (yS b.glob d))∧Below w.heap.size w w':=by
 obtain⟨rfl,rfl,⟨A2,n2,p2,rfl,s2,k2⟩,⟨A3,n3,p3,rfl,s3,k3⟩⟩:=hb;obtain⟨rfl,⟨A1,n1,cap1,rfl,hs1,hcap1⟩,rfl⟩:=h;have HR:Hid (yS b.glob d=(decide (d.name=b.glob)&&(decide (d.subs.length=2)&&decide (d.subs.getD 0 ByteArray.empty=⟨#[114]⟩)))):=rfl;have HL1:=zh hs1.1;have HC1:=zh hs1.2;have HB0:=zh ((Below.new w (.cells #[.string b.name,.string b.glob,.slice A2 n2 p2,.slice A3 n3 p3] 29)).later (Below.new _ (.cells #[.string d.name,.slice A1 n1 cap1,.string d.val] 83)));clear s2 s3 hs1;generalize yS b.glob d=R at *;generalize b.glob=gl at *;generalize b.name=bn at *;generalize d.val=vl at *;by_cases hnm:d.name=gl
 case neg =>
  have HE:Hid (R=false):=by unfold Hid;rw[HR.out,decide_eq_false hnm];rfl
  have hbe:=uC hnm;generalize d.name=dn at *;clear hnm HR;go_enter Tryz.func137,Tryz.ntmps137;go_wp2_with fail;go_ret;exact⟨zA0 HE.out.symm,HB0.out⟩
 subst hnm;by_cases hn2:n1=2
 case neg =>
  have HE:Hid (R=false):=by unfold Hid;rw[HR.out,HL1.out,decide_eq_false hn2];simp
  have hb3:((n1:Int)==2)=false:=by rw[beq_eq_false_iff_ne];omega
  have hb4:(n1==2)=false:=by rw[beq_eq_false_iff_ne];omega
  generalize d.name=dn at *;clear hn2 HR;go_enter Tryz.func137,Tryz.ntmps137;go_wp2_with fail;go_ret;exact⟨zA0 HE.out.symm,HB0.out⟩
 subst hn2;obtain⟨sb,so,rfl,hsb,hsc⟩:=HC1.out (by omega);have hck:=hsc 0 (by omega);clear hsc;rw[Nat.add_zero]at hck;have HE:Hid (R=decide (d.subs.getD 0 ByteArray.empty=⟨#[114]⟩)):=by unfold Hid;rw[HR.out,HL1.out];simp
 clear HR;generalize d.name=dn at *;generalize d.subs.getD 0 ByteArray.empty=s0 at *;by_cases hsub:s0=⟨#[114]⟩
 case neg =>
  have HE2:Hid (R=false):=by unfold Hid;rw[HE.out,decide_eq_false hsub]
  have hbe:=uC hsub;have hbe3:=zBZ hsub;clear hsub HE;go_enter Tryz.func137,Tryz.ntmps137;go_wp2_with fail;go_ret;exact⟨zA0 HE2.out.symm,HB0.out⟩
 subst hsub;have HE2:Hid (R=true):=by unfold Hid;rw[HE.out];simp
 clear HE;go_enter Tryz.func137,Tryz.ntmps137;go_wp2_with fail;go_ret;exact⟨zA0 HE2.out.symm,HB0.out⟩
set_option maxRecDepth 100000 in
theorem zEJ (bk:Nat) (b0 b1 b2 b3 c0 c1 c2:Value) (b:TableD) (d:NodeD) (w:World) (hk:Blk w bk 29 #[b0,b1,b2,b3]) (hb:TableR w w.heap.size b0 b1 b2 b3 b) (h:NodeR w w.heap.size c0 c1 c2 d) :
 Calls Tryz.prog 136 #[.agg #[c0,c1,c2],.pointer (some ⟨bk,0,none⟩)] w fun e w'=>e=.returned (.bool (!yS b.glob d))∧Below w.heap.size w w':=by
 have HK:=zh (fun o=>zER b0 b1 b2 b3 c0 c1 c2 b d (w.alloc o) (hb.later (Below.new _ _)) (h.later (Below.new _ _)));obtain⟨rfl,rfl,⟨A2,n2,p2,rfl,s2,k2⟩,⟨A3,n3,p3,rfl,s3,k3⟩⟩:=hb;obtain⟨rfl,⟨A1,n1,cap1,rfl,hs1,hcap1⟩,rfl⟩:=h;have x0:=hk.cell 0;have x1:=hk.cell 1;have x2:=hk.cell 2;have x3:=hk.cell 3;simp at x0 x1 x2 x3;have hlt:=hk.lt;clear hk s2 s3 hs1;generalize yS b.glob d=R at *;go_enter Tryz.func136,Tryz.ntmps136;go_wp2_with fail;refine(HK.out _).mono ?_;rintro e w1 ⟨rfl,hb1⟩;have HB:=zh ((Below.new w _).later hb1);clear hb1;go_wp2_with fail;go_ret;exact⟨rfl,HB.out⟩
theorem zKs (g:ByteArray) (fs:List NodeD):(fs.filter fun d=>!(!yS g d))=xB g fs:=by
 unfold xB
 congr 1
 funext d
 simp
set_option maxRecDepth 100000 in
theorem zBW (A:Option Addr) (n c:Nat) (b0 b1 b2 b3:Value) (fs:List NodeD) (b:TableD) (w:World) (h:Nodes w w.heap.size A n fs) (hb:TableR w w.heap.size b0 b1 b2 b3 b) (hs:vF fs) :
 Calls Tryz.prog 65 #[.agg #[.slice A n c],.agg #[b0,b1,b2,b3]] w (zFy w (xB b.glob fs)):=by
 have hn:n≤1048576:=by rw[←h.1];exact hs.1
 have HKc:=zh (fun W (hW:Below w.heap.size w W)=>zIG w A n c fs W h hW hn);have HT:=zh (fun W (hW:Below w.heap.size w W)=>hb.later hW);have HS:=zh hs.1;have HF:=zh (zKs b.glob fs);obtain⟨rfl,rfl,⟨A2,n2,p2,rfl,s2,k2⟩,⟨A3,n3,p3,rfl,s3,k3⟩⟩:=hb;clear s2 s3 h hs hn;have HB0:=zh ((Below.new w (.cells #[.slice A n c] 26)).later (Below.new _ (.cells #[.string b.name,.string b.glob,.slice A2 n2 p2,.slice A3 n3 p3] 29)));go_enter Tryz.func65,Tryz.ntmps65;go_wp2_with fail;refine(HKc.out _ HB0.out).mono ?_;rintro e w1 ⟨v,cs,rfl,ho,hc,hb1⟩
 have HP:Hid (zEC 136 #[.pointer (some ⟨w.heap.size+1,0,none⟩)] (fun d=>!yS b.glob d) fs ((w.alloc (.cells #[.slice A n c] 26)).alloc (.cells #[.string b.name,.string b.glob,.slice A2 n2 p2,.slice A3 n3 p3] 29))) :=
  fun d _ c0 c1 c2 W hW hr=>zEJ (w.heap.size+1) _ _ _ _ c0 c1 c2 b d W (Blk.later (uB w _ _) hW (by simp)) (HT.out W (HB0.out.later hW)) hr
 have HKd:=zh (zDy 136 #[.pointer (some ⟨w.heap.size+1,0,none⟩)] (fun d=>!yS b.glob d) v fs cs _ w1 (zDS w w.heap.size) (fun c d ⟨c0,c1,c2,e,hr⟩=>⟨c0,c1,c2,e,hr.later HB0.out⟩) ho hc hb1 HS.out (enters_of Tryz.func136 (by kernel_rfl) rfl) HP.out);rw[HF.out]at HKd;have HB1:=zh hb1;clear ho hc hb1;go_wp2_with fail;refine HKd.out.mono ?_;rintro e w2 ⟨v2,cs2,rfl,ho2,hc2,hb2⟩;have HO2:=zh ho2;have HC2:=zh hc2;have HB2:=zh hb2;clear ho2 hc2 hb2;go_wp2_with fail;go_ret;exact⟨_,cs2,rfl,Own.own_base HO2.out (by simp;omega),cellsN_iff.2 HC2.out,HB0.out.later HB2.out⟩
end Go.Proofs.YtfpcjhajjejpdaaGreatDoor
namespace Go.Proofs.YtfpcjhajjejpdaaGreatDoor
open Go.RowKit
set_option linter.unusedVariables false
set_option maxRecDepth 100000 in
theorem zHL (A:Option Addr) (n c:Nat) (b0 b1 b2 b3:Value) (fs:List NodeD) (b:TableD) (w:World) (h:Nodes w w.heap.size A n fs) (hb:TableR w w.heap.size b0 b1 b2 b3 b) (hs:vF fs) (ht:uA fs=true) (hpos:0<b.cols.length) (hn5:b.cols.length≤5) :
 Calls Tryz.prog 45 #[.agg #[.slice A n c],.agg #[b0,b1,b2,b3]] w (zAA (yI b.cols (xB b.glob fs)) w):=by
 obtain⟨i0,hi,hz0,hz1,hz2⟩:=info_parts xZ;have HK3:=zh (fun W (hW:Below w.heap.size w W)=>zBW A n c b0 b1 b2 b3 fs b W (h.later hW) (hb.later hW) hs);have HKU:=zh (fun W (hW:Below w.heap.size w W) key val hk hv=>zBP b0 b1 b2 b3 b key val W (hb.later hW) hpos hn5 hk hv);have HNV:Hid (∀d∈xB b.glob fs,d.subs.length=2∧(∀s∈d.subs,s.size≤1048576)∧d.val.size≤64):=fun d hd=>⟨zBV d hd,(hs.2 d (zBb hd)).2.1.2,zCu ht d (zBb hd)⟩;have HR:Hid (yI b.cols (xB b.glob fs)=(if 24<(xB b.glob fs).length then ((4:Int),[]) else match wE (zDY b.cols) (xB b.glob fs) with | none=>((14:Int),[]) | some rs=>((0:Int),rs))):=rfl;have HF:Hid (∀d,zDY b.cols d=uH b.cols (d.subs.getD 1 ByteArray.empty) d.val):=fun _=>rfl;obtain⟨rfl,rfl,⟨A2,n2,p2,rfl,s2,k2⟩,⟨A3,n3,p3,rfl,s3,k3⟩⟩:=hb;clear s2 s3 h hs ht hpos hn5;generalize yI b.cols (xB b.glob fs)=R at *;generalize xB b.glob fs=ns at *;generalize uH b.cols=up at *;generalize zDY b.cols=kv at *;generalize b.name=nm at *;generalize b.glob=gl at *;have HB0:=zh ((Below.new w (.cells #[.slice A n c] 26)).later (Below.new _ (.cells #[.string nm,.string gl,.slice A2 n2 p2,.slice A3 n3 p3] 29)));have HX1:=zh (uB w (.cells #[.slice A n c] 26) (.cells #[.string nm,.string gl,.slice A2 n2 p2,.slice A3 n3 p3] 29));go_enter Tryz.func45,Tryz.ntmps45;go_wp2_with fail;refine(HK3.out _ HB0.out).mono ?_;rintro e w3 ⟨v,ncs,rfl,ho,hc,hb3⟩;obtain⟨A4,cap4,rfl,_,hN4⟩:=wK ho rfl hc hb3;have HN4:=zh hN4;have HB3:=zh (HB0.out.later hb3);have HY1:=zh (Blk.later HX1.out hb3 (by simp));have hw3:=HY1.out.lt;clear ho hc hb3 hN4;generalize hm:ns.length=m at *;have HM:=zh hm;clear hm;by_cases hbig:24<m
 · have HE:Hid (R=(4,[])):=by unfold Hid;rw[HR.out,if_pos hbig]
   go_wp2_with fail
   go_ret2
   rw[HE.out];exact⟨_,rfl,⟨[],Own.OwnL.nil _ _ _⟩,HB3.out.later (Below.new _ _)⟩
 have HR2:Hid (R=match wE kv ns with | none=>((14:Int),[]) | some rs=>((0:Int),rs)):=by unfold Hid;rw[HR.out,if_neg hbig]
 clear HR;go_wp2_with fail;go_loopw [7,21] (fun v i wr=>∃(k:Nat) (acc:List (List ByteArray)),k≤m∧i=.int .i64 k∧acc.length=k∧RowsI wr w3.heap.size v acc∧Below w3.heap.size w3 wr∧Hid (wE kv ns=(wE kv (ns.drop k)).map (acc++·))) (fun _ i _=>m-(intOf i).toNat);case atStart=>exact⟨0,[],Nat.zero_le _,rfl,rfl,vM w3 _ (Nat.le_refl _),Below.new _ _,by simp[Hid]⟩
 case round =>
  obtain⟨k,acc,hk,rfl,hacc,hrows,hb,hS⟩:=hrel;have HB:=zh hb;obtain⟨vs,hrows⟩:=hrows;have HRW:=zh hrows;have HBw:=zh (HB3.out.later hb);clear hb hrows;by_cases hlt:k<m
  · have hl:k<ns.length:=by rw[HM.out];exact hlt
    obtain⟨bb,o,rfl,hbB,hcn⟩:=(HN4.out.later HB.out).2 (by omega);obtain⟨c0,c1,c2,k0,k1,k2',hr⟩:=hcn k hlt;clear hcn;obtain⟨hd2,hds,hdv⟩:=HNV.out _ (wB ns k hl);have HN:=zh (zCW kv ns k hl);have HSo:=zh (fun x=>zCV kv ns k hl (x:=x));have HFd:=zh (HF.out (ns.getD k default));clear hl;generalize ns.getD k default=d at *;obtain⟨rfl,⟨A1,n1,cap1,rfl,hs1,hcap1⟩,rfl⟩:=hr;obtain rfl:n1=2:=by rw[←hs1.1];exact hd2
    obtain⟨sb,so,rfl,hsb,hsc⟩:=hs1.2 (by omega);have hck:=hsc 1 (by omega);have HKK:=zh (fun W hW=>HKU.out W hW (d.subs.getD 1 ByteArray.empty) d.val (hds _ (xE _ _ (by omega))) hdv);clear hsc hs1 hds hdv hd2;have y0:=(HY1.out.later HB.out hw3).cell 0;have y1:=(HY1.out.later HB.out hw3).cell 1;have y2:=(HY1.out.later HB.out hw3).cell 2;have y3:=(HY1.out.later HB.out hw3).cell 3;simp at y0 y1 y2 y3;have i1:(k:Int)<(m:Int):=by omega
    generalize d.subs.getD 1 ByteArray.empty=key at *;generalize d.val=val at *;generalize up key val=o' at *;generalize d.name=dn at *;have HBq:=zh (Below.new wr (.cells #[.string dn,.slice (some ⟨sb,so,none⟩) 2 cap1,.string val] 83));have HNB:Hid (Blk (wr.alloc (.cells #[.string dn,.slice (some ⟨sb,so,none⟩) 2 cap1,.string val] 83)) wr.heap.size 83 #[.string dn,.slice (some ⟨sb,so,none⟩) 2 cap1,.string val]):=zD0 rfl;obtain⟨WN,hWN⟩:∃WN,WN=wr.alloc (.cells #[.string dn,.slice (some ⟨sb,so,none⟩) 2 cap1,.string val] 83):=⟨_,rfl⟩;rw[←hWN]at HBq HNB;have HB:=zh (HB.out.later HBq.out);have HRW:=zh (HRW.out.later HBq.out);have HBw:=zh (HBw.out.later HBq.out);have y0:=cell_later HBq.out y0;have y1:=cell_later HBq.out y1;have y2:=cell_later HBq.out y2;have y3:=cell_later HBq.out y3;have hck:=cell_later HBq.out hck;have n1':=HNB.out.cell 1;have n2':=HNB.out.cell 2;have nz:=HNB.out.lt;simp at n1' n2';obtain⟨nb,hnb⟩:∃nb,nb=wr.heap.size:=⟨_,rfl⟩;go_wp2_with fail;rw[←hWN];rw[←hnb]at n1' n2' nz ⊢;clear hWN HBq HNB k0 k1 k2' hnb;have HQ0:Hid (Blk (WN.alloc (.cells #[.slice none 0 0] 40)) WN.heap.size 40 #[.slice none 0 0]):=zD0 rfl;have HBn:=zh (HBw.out.later (Below.new WN (.cells #[.slice none 0 0] 40)));have HS:Hid (∀W',Below WN.heap.size WN W'→(W'.cell? ⟨w.heap.size+1,0,none⟩=some (.string nm)∧W'.cell? ⟨w.heap.size+1,1,none⟩=some (.string gl)∧W'.cell? ⟨w.heap.size+1,2,none⟩=some (.slice A2 n2 p2)∧W'.cell? ⟨w.heap.size+1,3,none⟩=some (.slice A3 n3 p3)∧W'.cell? ⟨nb,1,none⟩=some (.slice (some ⟨sb,so,none⟩) 2 cap1)∧W'.cell? ⟨nb,2,none⟩=some (.string val)∧W'.cell? ⟨sb,so+1,none⟩=some (.string key))):=fun W' hW=>⟨cell_later hW y0,cell_later hW y1,cell_later hW y2,cell_later hW y3,cell_later hW n1',cell_later hW n2',cell_later hW hck⟩;obtain⟨y0,y1,y2,y3,n1',n2',hck⟩:=HS.out _ (Below.refl _ _)
    go_region_held3 (fun w'=>w'.cell? ⟨w.heap.size+1,0,none⟩=some (.string nm)∧w'.cell? ⟨w.heap.size+1,1,none⟩=some (.string gl)∧w'.cell? ⟨w.heap.size+1,2,none⟩=some (.slice A2 n2 p2)∧w'.cell? ⟨w.heap.size+1,3,none⟩=some (.slice A3 n3 p3)∧w'.cell? ⟨nb,1,none⟩=some (.slice (some ⟨sb,so,none⟩) 2 cap1)∧w'.cell? ⟨nb,2,none⟩=some (.string val)∧w'.cell? ⟨sb,so+1,none⟩=some (.string key)) (first | exact HS.out _ (Below.refl _ _).drew | exact HS.out _ (Below.new _ _).drew | exact HS.out _ HBY.out | exact HS.out _ (HBY.out.later (Below.new _ _)) | exact HS.out _ (HBY.out.setCell (Nat.le_refl _) _))
     (first
       | (go_at_call 106;refine(HKK.out _ HBw.out.drew).mono ?_;rintro e w4 ⟨v',rfl,hsub,hb4'⟩;obtain⟨AC,cc,rfl,hcc,hmc,hac⟩:=Own.own_slice hsub;have HSUB:=zh hsub;have HBX:=zh (xC hb4');have HBY:=zh HBX.out;clear hsub hb4' hac)
       | (go_at_call 106;refine(HKK.out _ HBn.out.drew).mono ?_;rintro e w4 ⟨v',rfl,hsub,hb4'⟩;obtain⟨AC,cc,rfl,hcc,hmc,hac⟩:=Own.own_slice hsub;have HSUB:=zh hsub;have HBX:=zh (xC hb4');have HBY:=zh ((Below.new WN (.cells #[.slice none 0 0] 40)).later HBX.out);have HQ:=zh (Blk.later HQ0.out HBX.out (by simp));have q0:=(Blk.cell HQ.out 0);have qf:=Blk.frozen HQ.out 0;have qz:=Blk.lt HQ.out;simp at q0;clear hsub hb4' hac))
    · have HBZ:=zh (HBX.out.later (Below.new w4 (.cells #[(.slice AC (o'.getD []).length cc)] 40)));have HQ5:Hid (Blk (w4.alloc (.cells #[(.slice AC (o'.getD []).length cc)] 40)) w4.heap.size 40 #[(.slice AC (o'.getD []).length cc)]):=zD0 rfl;have HS5:Hid (Own.SubO (w4.alloc (.cells #[(.slice AC (o'.getD []).length cc)] 40)) WN.heap.size (.slice AC (o'.getD []).length cc) (o'.getD [])):=Own.own_later HSUB.out (Below.new _ _);have HAPB:WN.heap.size≤WN.heap.size:=Nat.le_refl _;obtain⟨W5,hW5⟩:∃W5,W5=w4.alloc (.cells #[(.slice AC (o'.getD []).length cc)] 40):=⟨_,rfl⟩;rw[←hW5]at HBZ HQ5 HS5 ⊢;clear hW5 HBX HBY HSUB HQ0 HBn;have HB5:=zh (HB.out.later HBZ.out);have HBv:=zh (HB3.out.later HB5.out);have HRW5:=zh (HRW.out.later HBZ.out);have q5:=HQ5.out.cell 0;have qz5:=HQ5.out.lt;simp at q5;have z35:=HB5.out.size;have z36:=HB.out.size
      cases o' with
      | none =>
        have HE:Hid (R=(14,[])):=by unfold Hid;rw[HR2.out,hS.out,HN.out HFd.out];rfl
        have hcu:zAQ (none:Option (List ByteArray))=14:=rfl;rw[hcu];clear q5 qz5;go_wp2_with fail
        go_ret2
        rw[HE.out];exact⟨_,rfl,⟨[],Own.OwnL.nil _ _ _⟩,HBv.out⟩
      | some x =>
        have HE:Hid (wE kv ns=(wE kv (ns.drop (k+1))).map ((acc++[x])++·)):=by
         unfold Hid;rw[hS.out,HSo.out x HFd.out,Option.map_map]
         congr 1
         funext l
         simp
        have hcu:zAQ (some x)=0:=rfl;rw[hcu];have HO:=zh HRW5.out;have HAP:=zh (Own.OwnL.fresh HRW.out HS5.out HAPB);have hrow:Hid (∀oo,(W5.alloc oo).ownsRow w3.heap.size 40 1 u7 acc.length (Own.flat rowK acc vs)):=fun oo=>Own.own_later HO.out.row (Below.new _ _);have hx5:Own.SubO W5 w3.heap.size (.slice AC x.length cc) x:=Own.own_base HS5.out (by omega);have HX5:=zh hx5;clear hx5;go_wp2_with (at_builtin;refine wpList_append_own _ rfl (.tmp 39) (.tmp 41) 35 rfl w3.heap.size 40 i0 _ 1 24 Tryz.underlying35 hi hz0 hz1 hz2 rfl (by decide) _ acc.length _ rfl (hrow.out _) ⟨_,0,none⟩ 1 1 [.slice AC x.length cc] rfl rfl ?m1 ?m2 ?m3 ?m4 ?m5 ?_);all_goals try (first | exact wD _ #[.slice AC x.length cc] _ _ (by simp) | (simp[Value.oneCell'];done) | (unfold maxLen;omega) | omega | (simp;omega))
        intro v1 w6 hown1 hg1 _;have HN6:Hid (RowsI w6 w3.heap.size v1 (acc++[x])):=by have hX6:Own.SubO (W5.alloc (.cells #[.slice AC x.length cc] 40)) w3.heap.size (.slice AC x.length cc) x:=Own.own_later HX5.out (Below.new _ _);refine⟨vs++[.slice AC x.length cc],Own.OwnL.snoc (HO.out.later (Below.new W5 (.cells #[.slice AC x.length cc] 40))) hX6 HAP.out ?_ hg1 (by decide)⟩;show w6.ownsRow w3.heap.size 40 1 v1 (acc.length+1) (Own.flat rowK acc vs++[.slice AC x.length cc]);rw[hacc];exact hown1
        have HB6:=zh ((HB5.out.later (Below.new W5 (.cells #[.slice AC x.length cc] 40))).grown hg1 (by simp;omega) (fun g hg'=>((hrow.out (.cells #[] 0)).lt g hg').1));clear hown1 hg1;go_wp2_with fail;go_roundw;case rel=>exact⟨k+1,acc++[x],by omega,by go_num,by simp[hacc],HN6.out,HB6.out,HE.out⟩
        case measure=>simp[intOf];omega
    · have HBZ:=zh (HBY.out.setCell (p:=⟨WN.heap.size,0,none⟩) (Nat.le_refl _) (.slice AC (o'.getD []).length cc));have HQ5:Hid (Blk (w4.setCell ⟨WN.heap.size,0,none⟩ (.slice AC (o'.getD []).length cc)) WN.heap.size 40 #[(.slice AC (o'.getD []).length cc)]):=by unfold Hid;have h:=HQ.out.set_ 0 (.slice AC (o'.getD []).length cc);simpa using h
      have HS5:Hid (Own.SubO (w4.setCell ⟨WN.heap.size,0,none⟩ (.slice AC (o'.getD []).length cc)) (WN.alloc (.cells #[.slice none 0 0] 40)).heap.size (.slice AC (o'.getD []).length cc) (o'.getD [])):=Own.sub_far HSUB.out (by simp);have HAPB:WN.heap.size≤(WN.alloc (.cells #[.slice none 0 0] 40)).heap.size:=by simp
      obtain⟨W5,hW5⟩:∃W5,W5=w4.setCell ⟨WN.heap.size,0,none⟩ (.slice AC (o'.getD []).length cc):=⟨_,rfl⟩;rw[←hW5]at HBZ HQ5 HS5 ⊢;clear hW5 HBX HBY HSUB HQ0 HBn q0 qf qz HQ;have HB5:=zh (HB.out.later HBZ.out);have HBv:=zh (HB3.out.later HB5.out);have HRW5:=zh (HRW.out.later HBZ.out);have q5:=HQ5.out.cell 0;have qz5:=HQ5.out.lt;simp at q5;have z35:=HB5.out.size;have z36:=HB.out.size
      cases o' with
      | none =>
        have HE:Hid (R=(14,[])):=by unfold Hid;rw[HR2.out,hS.out,HN.out HFd.out];rfl
        have hcu:zAQ (none:Option (List ByteArray))=14:=rfl;rw[hcu];clear q5 qz5;go_wp2_with fail
        go_ret2
        rw[HE.out];exact⟨_,rfl,⟨[],Own.OwnL.nil _ _ _⟩,HBv.out⟩
      | some x =>
        have HE:Hid (wE kv ns=(wE kv (ns.drop (k+1))).map ((acc++[x])++·)):=by
         unfold Hid;rw[hS.out,HSo.out x HFd.out,Option.map_map]
         congr 1
         funext l
         simp
        have hcu:zAQ (some x)=0:=rfl;rw[hcu];have HO:=zh HRW5.out;have HAP:=zh (Own.OwnL.fresh HRW.out HS5.out HAPB);have hrow:Hid (∀oo,(W5.alloc oo).ownsRow w3.heap.size 40 1 u7 acc.length (Own.flat rowK acc vs)):=fun oo=>Own.own_later HO.out.row (Below.new _ _);have hx5:Own.SubO W5 w3.heap.size (.slice AC x.length cc) x:=Own.own_base HS5.out (by simp;omega);have HX5:=zh hx5;clear hx5;go_wp2_with (at_builtin;refine wpList_append_own _ rfl (.tmp 39) (.tmp 41) 35 rfl w3.heap.size 40 i0 _ 1 24 Tryz.underlying35 hi hz0 hz1 hz2 rfl (by decide) _ acc.length _ rfl (hrow.out _) ⟨_,0,none⟩ 1 1 [.slice AC x.length cc] rfl rfl ?n1 ?n2 ?n3 ?n4 ?n5 ?_);all_goals try (first | exact wD _ #[.slice AC x.length cc] _ _ (by simp) | (simp[Value.oneCell'];done) | (unfold maxLen;omega) | omega | (simp;omega))
        intro v1 w6 hown1 hg1 _;have HN6:Hid (RowsI w6 w3.heap.size v1 (acc++[x])):=by have hX6:Own.SubO (W5.alloc (.cells #[.slice AC x.length cc] 40)) w3.heap.size (.slice AC x.length cc) x:=Own.own_later HX5.out (Below.new _ _);refine⟨vs++[.slice AC x.length cc],Own.OwnL.snoc (HO.out.later (Below.new W5 (.cells #[.slice AC x.length cc] 40))) hX6 HAP.out ?_ hg1 (by decide)⟩;show w6.ownsRow w3.heap.size 40 1 v1 (acc.length+1) (Own.flat rowK acc vs++[.slice AC x.length cc]);rw[hacc];exact hown1
        have HB6:=zh ((HB5.out.later (Below.new W5 (.cells #[.slice AC x.length cc] 40))).grown hg1 (by simp;omega) (fun g hg'=>((hrow.out (.cells #[] 0)).lt g hg').1));clear hown1 hg1;go_wp2_with fail;go_roundw;case rel=>exact⟨k+1,acc++[x],by omega,by go_num,by simp[hacc],HN6.out,HB6.out,HE.out⟩
        case measure=>simp[intOf];omega
  · have HE:Hid (R=(0,acc)):=by unfold Hid;rw[HR2.out,hS.out,List.drop_of_length_le (by rw[HM.out];omega)];simp[wE]
    go_wp2_with fail
    go_ret2
    rw[HE.out];exact⟨_,rfl,⟨vs,HRW.out.base HB3.out.size⟩,HBw.out⟩
end Go.Proofs.YtfpcjhajjejpdaaGreatDoor
