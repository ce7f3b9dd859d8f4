import Derived.Test.YtgmaamnofhmecaaGreatDoorV48
import Derived.Test.YtgmaamnofhmecaaGreatDoorV31
import Derived.Test.YtgmaamnofhmecaaGreatDoorV06
import Derived.Test.YtgmaamnofhmecaaGreatDoorV21
import Derived.Deep.RegionHeld3
set_option maxHeartbeats 40000000
open Go.Lib renaming hid → zh
namespace Go.Proofs.YtgmaamnofhmecaaGreatDoor
open Go.RowKit
set_option linter.unusedVariables false
theorem zGX (A:Option Addr) (n c:Nat) (w:World) (h:BytesR w w.heap.size A n) (hn:n≤1048576) :
 Calls Tryz.prog 45 #[.slice A n c] w fun e w'=>e=.returned (.pointer (some ⟨w.heap.size,0,none⟩))∧SrcR w' w.heap.size 0∧Below w.heap.size w w':=by
 have H:=zh h;clear h;go_enter Tryz.func45,Tryz.ntmps45;go_wp2_with fail;go_ret;exact⟨rfl,⟨A,n,c,0,0,wF rfl,H.out.later (fun i hi=>Below.heap_alloc _ _ _ hi),Nat.le_refl _,hn,by omega⟩,Below.new _ _⟩
theorem Drawn.below {p K B:Nat} {a b w:World} (h0:Below B w a) (h:Drawn p K a b) (hp:B≤p) (hB:B≤w.heap.size):Below B w b:=Own.Chg.below h0 h.chg (fun g e=>by rw[e];exact hp) hB
theorem BytesR.later' {w w':World} {A:Option Addr} {n:Nat} (h:BytesR w w.heap.size A n) (hb:Below w.heap.size w w'):BytesR w' w'.heap.size A n:=fun hn=>by
 obtain⟨b,o,e,hb1,hc⟩:=h hn;refine⟨b,o,e,Nat.lt_of_lt_of_le hb1 hb.size,fun j hj=>?_⟩;obtain⟨x,h1,h2⟩:=hc j hj;exact⟨x,cell_later hb h1,h2⟩
section
variable {P:Nat→Prop} {X Y:World} {bs:Nat} (k:Own.Chg P X Y) (hP:∀g,P g→g<bs)
include k hP
theorem zFP {v:Value} {ss:List ByteArray} (h:Own.SubO X bs v ss):Own.SubO Y bs v ss:=Own.own_chg h k (Own.inP_of h fun g h1 _ hp=>by have:=hP g hp;omega)
theorem zIc {v:Value} {fs:List NodeD} (h:NodesO X bs v fs):NodesO Y bs v fs:=by
 obtain⟨vs,h⟩:=h;obtain⟨h1,h2⟩:=Own.OwnL.inP h (P:=fun g=>¬P g) (fun g h1 _ hp=>by have:=hP g hp;omega);exact⟨vs,Own.OwnL.chg h k h1 h2⟩
theorem zKl {c0 c1 c2 c3:Value} {d:TableD} (h:TabO X bs c0 c1 c2 c3 d):TabO Y bs c0 c1 c2 c3 d:=⟨h.nm,h.gl,zFP k hP h.cols,zFP k hP h.idx,h.ap⟩
end
def zKS (w:World) (e:Ending) (w':World):Prop:=∃v fs c0 c1 c2 c3 d rv rs,e=.returned (.tuple #[.agg #[v],.agg #[c0,c1,c2,c3],.agg #[rv]])∧(NodesO w' w.heap.size v fs∧TabO w' w.heap.size c0 c1 c2 c3 d∧Own.SubO w' w.heap.size rv rs∧Below w.heap.size w w')∧xA fs=true∧zCl 5 d∧0<rs.length∧rs.length≤7∧∀s∈rs,s.size≤16
end Go.Proofs.YtgmaamnofhmecaaGreatDoor
namespace Go.Proofs.YtgmaamnofhmecaaGreatDoor
open Go.RowKit
set_option linter.unusedVariables false
set_option maxRecDepth 100000 in
theorem zCO (A:Option Addr) (n c:Nat) (w:World) (h:BytesR w w.heap.size A n) (hn:n≤1048576) :
 Calls Tryz.prog 11 #[.slice A n c] w (zKS w):=by
 obtain⟨WB,hWB⟩:∃WB,WB=((w.alloc (.cells #[.slice none 0 0] 26)).alloc (.cells #[.string ⟨#[]⟩,.string ⟨#[]⟩,.slice none 0 0,.slice none 0 0] 29)).alloc (.cells #[.slice none 0 0] 31):=⟨_,rfl⟩;have HBB:Hid (Below w.heap.size w WB):=by subst hWB;exact zL0 w _ _ _
 have HR2:Hid (Blk WB w.heap.size 26 #[.slice none 0 0]):=by subst hWB;exact wN _ _ _ _
 have HR3:Hid (Blk WB (w.heap.size+1) 29 #[.string ⟨#[]⟩,.string ⟨#[]⟩,.slice none 0 0,.slice none 0 0]):=by subst hWB;exact wK _ _ _ _
 have HR4:Hid (Blk WB (w.heap.size+1+1) 31 #[.slice none 0 0]):=by subst hWB;exact wJ _ _ _ _
 have HK1:=zh (zGX A n c WB (BytesR.later' h HBB.out) hn);have hp3:WB.heap.size=w.heap.size+1+1+1:=by subst hWB;simp
 clear h hn;go_enter Tryz.func11,Tryz.ntmps11;go_wp2_with fail;rw[←hWB];clear hWB;refine HK1.out.mono ?_;rintro e w1 ⟨rfl,hs1,hb1⟩;rw[hp3]at hs1 hb1 ⊢;have HB1:=zh (HBB.out.trans (hb1.mono (by omega)));have HA2:=zh (Blk.later HR2.out (hb1.mono (Nat.le_of_eq hp3)) HR2.out.lt);have HA3:=zh (Blk.later HR3.out (hb1.mono (Nat.le_of_eq hp3)) HR3.out.lt);have HA4:=zh (Blk.later HR4.out (hb1.mono (Nat.le_of_eq hp3)) HR4.out.lt);have hw1:w.heap.size+1+1+1<w1.heap.size:=hs1.lt;generalize hp:w.heap.size+1+1+1=p at *;have HS1:=zh hs1;have HK2:=zh (zDG p 0 w1 hs1 (by omega));clear hs1 hb1 HK1 HR2 HR3 HR4 HBB hp3;go_wp2_with fail;refine HK2.out.mono ?_;rintro e w2 ⟨c0,c1,c2,c3,d,rfl,hT,htn,hd⟩;obtain⟨A2,p2,e2,_,_⟩:=Own.own_slice hT.cols;obtain⟨A3,p3,e3,_,_⟩:=Own.own_slice hT.idx;have e0:=hT.nm;have e1:=hT.gl;subst e0 e1 e2 e3;have HTN:=zh htn;have HT2:=zh hT;have HD2:=zh hd;clear hT htn hd HK2;have hw2:=HD2.out.chg.size;obtain⟨WX,hWX⟩:∃WX,WX=w2.alloc (.cells #[.string d.name,.string d.glob,.slice A2 d.cols.length p2,.slice A3 d.idx.length p3] 29):=⟨_,rfl⟩;have HX:Hid (Blk WX w2.heap.size 29 #[.string d.name,.string d.glob,.slice A2 d.cols.length p2,.slice A3 d.idx.length p3]):=by subst hWX;exact heap_alloc_new _ _
 have HDX:Hid (Drawn p (0+6) w1 WX):=by subst hWX;exact HD2.out.later (Below.new _ _)
 have HTX:Hid (TabO WX w1.heap.size (.string d.name) (.string d.glob) (.slice A2 d.cols.length p2) (.slice A3 d.idx.length p3) d):=by subst hWX;exact HT2.out.later (Below.new _ _)
 have hwx:=HDX.out.chg.size;have HKB:=zh (zGO p (0+6) (.string d.name) (.string d.glob) (.slice A2 d.cols.length p2) (.slice A3 d.idx.length p3) d WX.drew (xF HDX.out).src (HTX.out.later (Below.refl _ _).drew).reads (zDs HTN.out (by decide)) (by have:=HTN.out.2.2.1.1;omega) HTN.out.2.1 (by omega));have x0:=HX.out.cell 0;have x1:=HX.out.cell 1;have x2:=HX.out.cell 2;have x3:=HX.out.cell 3;simp at x0 x1 x2 x3;clear HT2 HD2;go_wp2_with fail;rw[←hWX];clear hWX
 go_region_held3 (fun w'=>w'.cell? ⟨w2.heap.size,0,none⟩=some (.string d.name)∧w'.cell? ⟨w2.heap.size,1,none⟩=some (.string d.glob)∧w'.cell? ⟨w2.heap.size,2,none⟩=some (.slice A2 d.cols.length p2)∧w'.cell? ⟨w2.heap.size,3,none⟩=some (.slice A3 d.idx.length p3))
  (first | with_reducible exact⟨x0,x1,x2,x3⟩ | with_reducible exact⟨y0,y1,y2,y3⟩ | with_reducible exact⟨z0,z1,z2,z3⟩ | go_keep)
  (first
    | (go_at_call 47
       refine HKB.out.mono ?_;rintro e w3 ⟨v3,fs,rfl,hn3,ht3,hd3'⟩;have hd3:=hd3'.pre (Below.refl _ WX).drew;obtain⟨A4,cap4,rfl,_,_⟩:=hn3.reads;have HN3:Hid (NodesO w3 WX.heap.size (.slice A4 fs.length cap4) fs):=hn3;have HTR:=zh ht3;have HD3:=zh (HDX.out.trans hd3);have HX3:=zh (Blk.drawn HX.out hd3 (by omega));have HT3:=zh (HTX.out.drawn HDX.out.src hd3);have hw3:=hd3.chg.size;have y0:=HX3.out.cell 0;have y1:=HX3.out.cell 1;have y2:=HX3.out.cell 2;have y3:=HX3.out.cell 3;simp at y0 y1 y2 y3
       clear hd3 hd3' hn3 ht3)
    | (go_at_call 48
       refine(zEY p (0+6+220) (.string d.name) (.string d.glob) (.slice A2 d.cols.length p2) (.slice A3 d.idx.length p3) d w3 HD3.out.src HT3.out.reads (by have:=HTN.out.2.2.1.1;omega) (by omega)).mono ?_;rintro e w4 ⟨rv,rs,rfl,hsub,hpos,hlen,hall,hd4⟩;obtain⟨A5,cap5,rfl,_,_⟩:=Own.own_slice hsub;have HD4:=zh (HD3.out.trans hd4);have HX4:=zh (Blk.drawn HX3.out hd4 (by omega));have HT4:=zh (HT3.out.drawn HD3.out.src hd4);have HN4:=zh (HN3.out.drawn HD3.out.src hd4);have HU4:=zh hsub;have HRW:=zh (And.intro hpos (And.intro hlen hall));have HE2:=zh (Blk.drawn HA2.out HD4.out (by omega));have HE3:=zh (Blk.drawn HA3.out HD4.out (by omega));have HE4:=zh (Blk.drawn HA4.out HD4.out (by omega));have z0:=HX4.out.cell 0;have z1:=HX4.out.cell 1;have z2:=HX4.out.cell 2;have z3:=HX4.out.cell 3;have zz:=HX4.out.lt;have r2:=HE2.out.cell 0;have f2:=HE2.out.frozen 0;have l2:=HE2.out.lt;have r30:=HE3.out.cell 0;have r31:=HE3.out.cell 1;have r32:=HE3.out.cell 2;have r33:=HE3.out.cell 3;have f30:=HE3.out.frozen 0;have f31:=HE3.out.frozen 1;have f32:=HE3.out.frozen 2;have f33:=HE3.out.frozen 3;have l3:=HE3.out.lt;have r4:=HE4.out.cell 0;have f4:=HE4.out.frozen 0;have l4:=HE4.out.lt;have n2:w.heap.size≠w2.heap.size:=by omega
       have n3:w.heap.size+1≠w2.heap.size:=by omega
       have n4:w.heap.size+1+1≠w2.heap.size:=by omega
       simp at z0 z1 z2 z3 r2 r30 r31 r32 r33 r4
       clear hsub hpos hlen hall hd4))
 all_goals
  clear x0 x1 x2 x3;go_wp2_with fail;refine bodyPost_ret (v:=.tuple #[.agg #[.slice A4 fs.length cap4],.agg #[.string d.name,.string d.glob,.slice A2 d.cols.length p2,.slice A3 d.idx.length p3],.agg #[.slice A5 rs.length cap5]]) (by simp[results,Tryz.results11,go_sem,r2,r30,r31,r32,r33,r4]) rfl ?_;refine⟨_,fs,_,_,_,_,d,_,rs,rfl,(fun (k:Own.Chg (fun g=>g=w.heap.size∨g=w.heap.size+1∨g=w.heap.size+1+1) w4 _)=>⟨(zIc k (fun g hg=>by omega) HN4.out).base (by omega),(zKl k (fun g hg=>by omega) HT4.out).base (by omega),Own.own_base (zFP k (fun g hg=>by omega) HU4.out) (by omega),Own.Chg.below (Drawn.below HB1.out HD4.out (by omega) (Nat.le_refl _)) k (fun g hg=>by omega) (Nat.le_refl _)⟩) ?_,HTR.out,HTN.out,HRW.out⟩
  (repeat (first | (with_reducible exact Own.Chg.refl _ _) | ((with_reducible refine xO ?_ ?_);rotate_left;(focus (first | exact .inl rfl | exact .inr (.inl rfl) | exact .inr (.inr rfl))))))
end Go.Proofs.YtgmaamnofhmecaaGreatDoor
namespace Go.Proofs.YtgmaamnofhmecaaGreatDoor
open Go.RowKit
set_option linter.unusedVariables false
theorem zJS (A:Option Addr) (n c:Nat) (w:World) (hn:n≤9223372036854775807) :
 Calls Tryz.prog 10 #[.slice A n c,.slice none 0 0] w fun e w'=>e=.returned (.bool (decide (1048576<n)))∧w=w':=by
 by_cases h:1048576<n
 all_goals
  go_enter Tryz.func10,Tryz.ntmps10;go_wp2_with fail;go_ret;exact⟨zA0 (by first | (simp[h];done) | (simp[h];omega)),rfl⟩
end Go.Proofs.YtgmaamnofhmecaaGreatDoor
namespace Go.Proofs.YtgmaamnofhmecaaGreatDoor
open Go.RowKit
set_option linter.unusedVariables false
set_option maxRecDepth 100000 in
theorem zEK (A A':Option Addr) (n c c':Nat) (cs:List ChgD) (w:World) (h:Chgs w w.heap.size A n cs) (h':Chgs w w.heap.size A' n cs) (hn:n≤1048576) (hsm:∀d∈cs,d.small) :
 Calls Tryz.prog 14 #[.slice A n c,.slice A' n c'] w fun e w'=>e=.returned (.bool true)∧Below w.heap.size w w':=by
 have H1:=zh h;have H2:=zh h';have HL:=zh h.1;have HZ:=zh hsm;clear h h' hsm;go_enter Tryz.func14,Tryz.ntmps14;go_wp2_with fail;go_loopw [5] (fun i wr=>∃k:Nat,k≤n∧i=.int .i64 k∧Below w.heap.size w wr) (fun i _=>n-(intOf i).toNat);case atStart=>exact⟨0,Nat.zero_le _,rfl,Below.refl _ _⟩
 case round =>
  obtain⟨k,hk,rfl,hb⟩:=hrel;have HB:=zh hb;clear hb;by_cases hlt:k<n
  · obtain⟨b1,o1,rfl,hb1,hc1⟩:=(H1.out.later HB.out).2 (by omega);obtain⟨b2,o2,rfl,hb2,hc2⟩:=(H2.out.later HB.out).2 (by omega);obtain⟨x0,x1,x2,x3,k0,k1,k2,k3,rfl,rfl,⟨A1,n1,p1,rfl,s1,q1⟩,rfl⟩:=hc1 k hlt;obtain⟨y0,y1,y2,y3,l0,l1,l2,l3,rfl,rfl,⟨A2,n2,p2,rfl,s2,q2⟩,rfl⟩:=hc2 k hlt;have hz:=(HZ.out _ (zFB cs k (by rw[HL.out];exact hlt))).2.1.1;have HK:=zh (fun W (hW:Below wr.heap.size wr W)=>zBa A1 A2 n1 p1 n2 p2 _ _ W (s1.later hW) (s2.later hW) (by rw[←s1.1];exact hz) (by rw[←s2.1];exact hz));have HEQ:Hid (eqS (cs.getD k default).subs (cs.getD k default).subs=true):=Own.eqS_same _;clear hc1 hc2 s1 s2 hz;generalize cs.getD k default=d at *;obtain⟨kd,nm,ss,vl⟩:=d;dsimp only at k0 k1 k2 k3 l0 l1 l2 l3 HK HEQ;have hki:(k:Int)<(n:Int):=by omega
    go_wp2_with fail
    go_region_held3 (fun w'=>w'.cell? ⟨b1,o1+k*4,none⟩=some (.int .i64 kd)∧w'.cell? ⟨b1,o1+k*4+1,none⟩=some (.string nm)∧w'.cell? ⟨b1,o1+k*4+2,none⟩=some (.slice A1 n1 p1)∧w'.cell? ⟨b1,o1+k*4+3,none⟩=some (.string vl) ∧
     w'.cell? ⟨b2,o2+k*4,none⟩=some (.int .i64 kd)∧w'.cell? ⟨b2,o2+k*4+1,none⟩=some (.string nm)∧w'.cell? ⟨b2,o2+k*4+2,none⟩=some (.slice A2 n2 p2)∧w'.cell? ⟨b2,o2+k*4+3,none⟩=some (.string vl))
     (first | with_reducible exact⟨k0,k1,k2,k3,l0,l1,l2,l3⟩ | exact⟨cell_later H5.out k0,cell_later H5.out k1,cell_later H5.out k2,cell_later H5.out k3,cell_later H5.out l0,cell_later H5.out l1,cell_later H5.out l2,cell_later H5.out l3⟩ | go_keep)
     ((go_at_call 62
       refine(HK.out _ (by exact(Below.refl _ _).drew)).mono ?_;rintro e w3 ⟨he,qn,rfl⟩;have H5:Hid (Below wr.heap.size wr (wr.drew.drewN qn)):=yE (Below.refl _ _).drew _;rw[HEQ.out]at he
       subst he))
    go_wp2_with fail;go_roundw;case rel=>exact⟨k+1,by omega,by go_num,yE HB.out _⟩
    case measure=>simp[intOf];omega
  · obtain rfl:k=n:=by omega
    go_wp2_with fail;go_ret;exact⟨rfl,HB.out⟩
end Go.Proofs.YtgmaamnofhmecaaGreatDoor
