import Derived.Test.YtgmaamnofhmecaaGreatDoorV31
import Derived.Test.YtgmaamnofhmecaaGreatDoorV23
import Derived.Test.YtgmaamnofhmecaaGreatDoorV13
import Derived.Test.YtgmaamnofhmecaaGreatDoorV21
import Derived.Deep.RegionHeld3
set_option maxHeartbeats 8000000
open Go.Lib renaming hid → zh
namespace Go.Proofs.YtgmaamnofhmecaaGreatDoor
open Go.RowKit
set_option linter.unusedVariables false
def zFW (kind:Int) (g:ByteArray) (r:List ByteArray):ChgD:=⟨kind,g,[rS,r.getD 0 ByteArray.empty],if kind=1 then uE r else ⟨#[]⟩⟩
set_option maxRecDepth 100000 in
theorem zGC (b0 b1 b2 b3 r0:Value) (b:TableD) (r:List ByteArray) (kind:Int) (w:World) (hb:TableR w w.heap.size b0 b1 b2 b3 b) (h:RowR w w.heap.size r0 r) (hsm:wL r) (hpos:0<r.length) :
 Calls Tryz.prog 52 #[.agg #[b0,b1,b2,b3],.int .i64 kind,.agg #[r0]] w (zDT (zFW kind b.glob r) w):=by
 have HKP:=zh (fun W (hW:Below w.heap.size w W)=>zEj r0 r W (h.later hW) hsm hpos);obtain⟨rfl,rfl,⟨A2,n2,p2,rfl,s2,k2⟩,⟨A3,n3,p3,rfl,s3,k3⟩⟩:=hb;obtain⟨A,n,c,rfl,hs,hnc⟩:=h;rw[hs.1]at hpos;obtain⟨rb,ro,rfl,hrb,hrc⟩:=hs.2 hpos;have hc0:=hrc 0 hpos;rw[Nat.add_zero]at hc0;have HR:Hid (zFW kind b.glob r=⟨kind,b.glob,[rS,r.getD 0 ByteArray.empty],if kind=1 then uE r else ⟨#[]⟩⟩):=rfl;clear s2 s3 hs hrc hsm;generalize zFW kind b.glob r=R at *;generalize uE r=pk at *;generalize r.getD 0 ByteArray.empty=key at *;generalize b.name=nm at *;generalize b.glob=gl at *;obtain⟨WB,hWB⟩:∃WB,WB=((w.alloc (.cells #[.string nm,.string gl,.slice A2 n2 p2,.slice A3 n3 p3] 29)).alloc (.cells #[.slice (some ⟨rb,ro,none⟩) n c] 31)).alloc (.cells #[.int .i64 0,.string ⟨#[]⟩,.slice none 0 0,.string ⟨#[]⟩] 88):=⟨_,rfl⟩;have HB0:Hid (Below w.heap.size w WB):=by subst hWB;exact zL0 w _ _ _
 have HTT:Hid (Blk WB w.heap.size 29 #[.string nm,.string gl,.slice A2 n2 p2,.slice A3 n3 p3]):=by subst hWB;exact wN _ _ _ _
 have HRR:Hid (Blk WB (w.heap.size+1) 31 #[.slice (some ⟨rb,ro,none⟩) n c]):=by subst hWB;exact wK _ _ _ _
 have HYY:Hid (Blk WB (w.heap.size+1+1) 88 #[.int .i64 0,.string ⟨#[]⟩,.slice none 0 0,.string ⟨#[]⟩]):=by subst hWB;exact wJ _ _ _ _
 have hrb3:rb<WB.heap.size:=Nat.lt_of_lt_of_le hrb HB0.out.size;have hk0:=(HB0.out.cell (p:=⟨rb,ro,none⟩) hrb).trans hc0;have q1:=HTT.out.cell 1;have q2:=HRR.out.cell 0;have hwb:=HB0.out.size;have hwy:=HYY.out.lt;have hwt:=HTT.out.lt;have hwr:=HRR.out.lt;simp at q1 q2;clear hc0;go_enter Tryz.func52,Tryz.ntmps52;go_wp2_with fail;rw[←hWB];clear hWB
 go_region_held3 (fun w'=>w'.cell? ⟨w.heap.size,1,none⟩=some (.string gl)∧w'.cell? ⟨w.heap.size+1,0,none⟩=some (.slice (some ⟨rb,ro,none⟩) n c)∧w'.cell? ⟨rb,ro,none⟩=some (.string key))
  (first | with_reducible exact⟨q1,q2,hk0⟩ | go_keep) (fail)
 · obtain⟨W5,hW5⟩:∃W5,W5=((WB.alloc (.cells #[.string ⟨#[114]⟩,.string key] 9)).alloc (.cells #[.int .i64 kind,.string gl,.slice (some ⟨WB.heap.size,0,none⟩) 2 2,.string ⟨#[]⟩] 88)).drew:=⟨_,rfl⟩;have HW5:Hid (Below WB.heap.size WB W5):=by subst hW5;exact((Below.new _ _).later (Below.new _ _)).drew
   have HQ5:Hid (Blk W5 (WB.heap.size+1) 88 #[.int .i64 kind,.string gl,.slice (some ⟨WB.heap.size,0,none⟩) 2 2,.string ⟨#[]⟩]):=by subst hW5;exact xB _ _ _
   have HU5:Hid (Own.SubO W5 w.heap.size (.slice (some ⟨WB.heap.size,0,none⟩) 2 2) [rS,key]):=by subst hW5;exact xI (vM [rS,key] _ rfl hwb rfl (by decide) rfl) (Below.new _ _).drew
   rw[←hW5];clear hW5;have HB5:=zh (HB0.out.later HW5.out);have HY5:=zh (HYY.out.later HW5.out HYY.out.lt);have x4:=(HRR.out.later HW5.out HRR.out.lt).cell 0;simp at x4;clear q1 q2 hk0;by_cases hk1:kind=1
   · have HE:Hid (R=⟨1,gl,[rS,key],pk⟩):=by unfold Hid;rw[HR.out,if_pos hk1,hk1]
     subst hk1;go_wp2_with fail;refine(HKP.out _ HB5.out).mono ?_;rintro e w6 ⟨rfl,hb6⟩;have HQ6:=zh (HQ5.out.later hb6 HQ5.out.lt);have HY6:=zh (HY5.out.later hb6 HY5.out.lt);have HU6:=zh (xI HU5.out hb6);have HB6:=zh (HB5.out.later hb6);clear hb6 x4;have c0:=HQ6.out.cell 0;have c1:=HQ6.out.cell 1;have c2:=HQ6.out.cell 2;have c3:=HQ6.out.cell 3;have cf3:=HQ6.out.frozen 3;have cz:=HQ6.out.lt;have y0:=HY6.out.cell 0;have y1:=HY6.out.cell 1;have y2:=HY6.out.cell 2;have y3:=HY6.out.cell 3;have yf0:=HY6.out.frozen 0;have yf1:=HY6.out.frozen 1;have yf2:=HY6.out.frozen 2;have yf3:=HY6.out.frozen 3;have yz:=HY6.out.lt;have hne:w.heap.size+1+1≠WB.heap.size+1:=by omega
     simp at c0 c1 c2 c3 y0 y1 y2 y3;go_wp2_with fail;refine bodyPost_ret (v:=.agg #[.int .i64 1,.string gl,.slice (some ⟨WB.heap.size,0,none⟩) 2 2,.string pk]) (by simp[results,Tryz.results52,go_sem,y0,y1,y2,y3]) rfl ?_;refine⟨_,by rw[HE.out],?_,xV (HB6.out.setCell (p:=⟨WB.heap.size+1,3,none⟩) (show w.heap.size≤WB.heap.size+1 by omega) _) (show w.heap.size≤w.heap.size+1+1 by omega) _ _ _ _⟩;rw[HE.out];exact zBg (HU6.out.setBlk HQ6.out (by decide)) (HY6.out.far (p:=⟨WB.heap.size+1,3,none⟩) (show w.heap.size+1+1≠WB.heap.size+1 by omega) _) (by decide) _ _ _ _
   · have HE:Hid (R=⟨kind,gl,[rS,key],⟨#[]⟩⟩):=by unfold Hid;rw[HR.out,if_neg hk1]
     have hb1:(kind==(1:Int))=false:=by rw[beq_eq_false_iff_ne];exact hk1
     have c0:=HQ5.out.cell 0;have c1:=HQ5.out.cell 1;have c2:=HQ5.out.cell 2;have c3:=HQ5.out.cell 3;have cf3:=HQ5.out.frozen 3;have cz:=HQ5.out.lt;have y0:=HY5.out.cell 0;have y1:=HY5.out.cell 1;have y2:=HY5.out.cell 2;have y3:=HY5.out.cell 3;have yf0:=HY5.out.frozen 0;have yf1:=HY5.out.frozen 1;have yf2:=HY5.out.frozen 2;have yf3:=HY5.out.frozen 3;have yz:=HY5.out.lt;have hne:w.heap.size+1+1≠WB.heap.size+1:=by omega
     simp at c0 c1 c2 c3 y0 y1 y2 y3;go_wp2_with fail;refine bodyPost_ret (v:=.agg #[.int .i64 kind,.string gl,.slice (some ⟨WB.heap.size,0,none⟩) 2 2,.string ⟨#[]⟩]) (by simp[results,Tryz.results52,go_sem,y0,y1,y2,y3]) rfl ?_;refine⟨_,by rw[HE.out],?_,xV HB5.out (show w.heap.size≤w.heap.size+1+1 by omega) _ _ _ _⟩;rw[HE.out];exact zBg HU5.out HY5.out (by decide) _ _ _ _
 · obtain⟨W5,hW5⟩:∃W5,W5=((WB.alloc (.cells #[.int .i64 kind,.string gl,.slice (some ⟨WB.heap.size+1,0,none⟩) 2 2,.string ⟨#[]⟩] 88)).alloc (.cells #[.string ⟨#[114]⟩,.string key] 9)).drew:=⟨_,rfl⟩;have HW5:Hid (Below WB.heap.size WB W5):=by subst hW5;exact((Below.new _ _).later (Below.new _ _)).drew
   have HQ5:Hid (Blk W5 (WB.heap.size) 88 #[.int .i64 kind,.string gl,.slice (some ⟨WB.heap.size+1,0,none⟩) 2 2,.string ⟨#[]⟩]):=by subst hW5;exact uC _ _ _
   have HU5:Hid (Own.SubO W5 w.heap.size (.slice (some ⟨WB.heap.size+1,0,none⟩) 2 2) [rS,key]):=by subst hW5;exact xI (vM [rS,key] _ (by simp) (by omega) rfl (by decide) rfl) (Below.refl _ _).drew
   rw[←hW5];clear hW5;have HB5:=zh (HB0.out.later HW5.out);have HY5:=zh (HYY.out.later HW5.out HYY.out.lt);have x4:=(HRR.out.later HW5.out HRR.out.lt).cell 0;simp at x4;clear q1 q2 hk0;by_cases hk1:kind=1
   · have HE:Hid (R=⟨1,gl,[rS,key],pk⟩):=by unfold Hid;rw[HR.out,if_pos hk1,hk1]
     subst hk1;go_wp2_with fail;refine(HKP.out _ HB5.out).mono ?_;rintro e w6 ⟨rfl,hb6⟩;have HQ6:=zh (HQ5.out.later hb6 HQ5.out.lt);have HY6:=zh (HY5.out.later hb6 HY5.out.lt);have HU6:=zh (xI HU5.out hb6);have HB6:=zh (HB5.out.later hb6);clear hb6 x4;have c0:=HQ6.out.cell 0;have c1:=HQ6.out.cell 1;have c2:=HQ6.out.cell 2;have c3:=HQ6.out.cell 3;have cf3:=HQ6.out.frozen 3;have cz:=HQ6.out.lt;have y0:=HY6.out.cell 0;have y1:=HY6.out.cell 1;have y2:=HY6.out.cell 2;have y3:=HY6.out.cell 3;have yf0:=HY6.out.frozen 0;have yf1:=HY6.out.frozen 1;have yf2:=HY6.out.frozen 2;have yf3:=HY6.out.frozen 3;have yz:=HY6.out.lt;have hne:w.heap.size+1+1≠WB.heap.size:=by omega
     simp at c0 c1 c2 c3 y0 y1 y2 y3;go_wp2_with fail;refine bodyPost_ret (v:=.agg #[.int .i64 1,.string gl,.slice (some ⟨WB.heap.size+1,0,none⟩) 2 2,.string pk]) (by simp[results,Tryz.results52,go_sem,y0,y1,y2,y3]) rfl ?_;refine⟨_,by rw[HE.out],?_,xV (HB6.out.setCell (p:=⟨WB.heap.size,3,none⟩) (show w.heap.size≤WB.heap.size by omega) _) (show w.heap.size≤w.heap.size+1+1 by omega) _ _ _ _⟩;rw[HE.out];exact zBg (HU6.out.setBlk HQ6.out (by decide)) (HY6.out.far (p:=⟨WB.heap.size,3,none⟩) (show w.heap.size+1+1≠WB.heap.size by omega) _) (by decide) _ _ _ _
   · have HE:Hid (R=⟨kind,gl,[rS,key],⟨#[]⟩⟩):=by unfold Hid;rw[HR.out,if_neg hk1]
     have hb1:(kind==(1:Int))=false:=by rw[beq_eq_false_iff_ne];exact hk1
     have c0:=HQ5.out.cell 0;have c1:=HQ5.out.cell 1;have c2:=HQ5.out.cell 2;have c3:=HQ5.out.cell 3;have cf3:=HQ5.out.frozen 3;have cz:=HQ5.out.lt;have y0:=HY5.out.cell 0;have y1:=HY5.out.cell 1;have y2:=HY5.out.cell 2;have y3:=HY5.out.cell 3;have yf0:=HY5.out.frozen 0;have yf1:=HY5.out.frozen 1;have yf2:=HY5.out.frozen 2;have yf3:=HY5.out.frozen 3;have yz:=HY5.out.lt;have hne:w.heap.size+1+1≠WB.heap.size:=by omega
     simp at c0 c1 c2 c3 y0 y1 y2 y3;go_wp2_with fail;refine bodyPost_ret (v:=.agg #[.int .i64 kind,.string gl,.slice (some ⟨WB.heap.size+1,0,none⟩) 2 2,.string ⟨#[]⟩]) (by simp[results,Tryz.results52,go_sem,y0,y1,y2,y3]) rfl ?_;refine⟨_,by rw[HE.out],?_,xV HB5.out (show w.heap.size≤w.heap.size+1+1 by omega) _ _ _ _⟩;rw[HE.out];exact zBg HU5.out HY5.out (by decide) _ _ _ _
end Go.Proofs.YtgmaamnofhmecaaGreatDoor
namespace Go.Proofs.YtgmaamnofhmecaaGreatDoor
open Go.RowKit
set_option linter.unusedVariables false
theorem zCW {cols r:List ByteArray} (h:vC cols r=true):r.length=cols.length∧(∀s∈r,s.size≤11):=by
 unfold vC at h;simp only[Bool.and_eq_true,decide_eq_true_eq,List.all_eq_true]at h;refine⟨h.1,fun s hs=>?_⟩;have h2:=h.2.2 s hs;unfold yJ at h2;rw[Bool.and_eq_true]at h2;exact of_decide_eq_true h2.2
theorem OwnL.two {W w3:World} {base:Nat} {v v3 v4 v5:Value} {D:ChgD} {gs:List ChgD} {us:List Value} {w5:World} (h:Own.OwnL uD W base 88 v [D] [v3]) (k:Own.OwnL uD W w3.heap.size 88 v4 gs us) (h3:Own.SubO w3 base v3 D.subs) (hb:base≤w3.heap.size)
 (hrow:w5.ownsRow base 88 4 v5 (1+gs.length) (Own.flat uD [D] [v3]++Own.flat uD gs us)) (hg:W.grownBy w5 v.ownBlock):ChgsO w5 base v5 (D::gs) :=
 ⟨[v3]++us,OwnL.app h (k.base hb) (fun a ha c hc=>by
   rw[List.mem_singleton.1 ha];obtain⟨j,hj,rfl⟩:=Own.mem_getD hc
   exact Own.apart_new h3 (k.subs j (by rw[←k.len];exact hj)) (Nat.le_refl _)) hrow hg (by decide)⟩
end Go.Proofs.YtgmaamnofhmecaaGreatDoor
namespace Go.Proofs.YtgmaamnofhmecaaGreatDoor
open Go.RowKit
set_option linter.unusedVariables false
set_option maxRecDepth 100000 in
theorem zKc (b0 b1 b2 b3 r0:Value) (b:TableD) (r:List ByteArray) (w:World) (hb:TableR w w.heap.size b0 b1 b2 b3 b) (h:RowR w w.heap.size r0 r) (hbs:b.small) (hsm:wL r) :
 Calls Tryz.prog 50 #[.agg #[b0,b1,b2,b3],.agg #[r0]] w fun e w'=>e=.returned (.bool (zF0 b&&vC b.cols r))∧Below w.heap.size w w':=by
 have HK1:=zh (fun W (hW:Below w.heap.size w W)=>zDF b0 b1 b2 b3 b W (hb.later hW) hbs);have HK2:=zh (fun (h1:zF0 b=true) W (hW:Below w.heap.size w W)=>zFm b0 b1 b2 b3 r0 b r W (hb.later hW) (h.later hW) hsm (by have:=(vA h1).2.1;omega));obtain⟨rfl,rfl,⟨A2,n2,p2,rfl,s2,k2⟩,⟨A3,n3,p3,rfl,s3,k3⟩⟩:=hb;obtain⟨A4,n4,p4,rfl,hrs,k4⟩:=h;clear s2 s3 hrs hbs hsm;generalize zF0 b=xb at *;generalize vC b.cols r=xr at *;generalize b.name=nm at *;generalize b.glob=gl at *;obtain⟨WB,hWB⟩:∃WB,WB=(w.alloc (.cells #[.string nm,.string gl,.slice A2 n2 p2,.slice A3 n3 p3] 29)).alloc (.cells #[.slice A4 n4 p4] 31):=⟨_,rfl⟩;have HX0:Hid (Blk WB w.heap.size 29 #[.string nm,.string gl,.slice A2 n2 p2,.slice A3 n3 p3]):=by subst hWB;exact uC _ _ _
 have HX1:Hid (Blk WB (w.heap.size+1) 31 #[.slice A4 n4 p4]):=by subst hWB;exact xB _ _ _
 have HBB:Hid (Below w.heap.size w WB):=by subst hWB;exact(Below.new _ _).later (Below.new _ _)
 go_enter Tryz.func50,Tryz.ntmps50;go_wp2_with fail;rw[←hWB];clear hWB;refine(HK1.out _ HBB.out).mono ?_;rintro e w1 ⟨rfl,hb1⟩;have HB1:=zh (HBB.out.later hb1);have x0:=(HX0.out.later hb1 HX0.out.lt).cell 0;have x1:=(HX0.out.later hb1 HX0.out.lt).cell 1;have x2:=(HX0.out.later hb1 HX0.out.lt).cell 2;have x3:=(HX0.out.later hb1 HX0.out.lt).cell 3;have x4:=(HX1.out.later hb1 HX1.out.lt).cell 0;simp at x0 x1 x2 x3 x4;clear hb1;cases xb
 · go_wp2_with fail;go_ret;exact⟨rfl,HB1.out⟩
 · have HK:=zh (HK2.out (by first | rfl | trivial));go_wp2_with fail;refine(HK.out _ HB1.out).mono ?_;rintro e w2 ⟨rfl,hb2⟩;have HB2:=zh (HB1.out.later hb2);clear hb2 x0 x1 x2 x3 x4;go_wp2_with fail;go_ret;exact⟨by simp,HB2.out⟩
end Go.Proofs.YtgmaamnofhmecaaGreatDoor
