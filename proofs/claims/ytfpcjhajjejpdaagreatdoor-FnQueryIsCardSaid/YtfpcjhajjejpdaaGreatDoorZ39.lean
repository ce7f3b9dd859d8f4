import Derived.Test.YtfpcjhajjejpdaaGreatDoorZ36
import Derived.Test.YtfpcjhajjejpdaaGreatDoorZ38
open Go.Lib renaming hid → zh
namespace Go.Proofs.YtfpcjhajjejpdaaGreatDoor
open Go.RowKit
set_option linter.unusedVariables false
theorem zGr {P:Nat→Prop} {X Y:World} {bs:Nat} (k:Own.Chg P X Y) (hP:∀g,P g→g<bs) {c0 c1 c2 c3 c4 c5:Value} {d:QueryD} (h:QryO X bs c0 c1 c2 c3 c4 c5 d):QryO Y bs c0 c1 c2 c3 c4 c5 d :=
 ⟨h.tb,zFD k hP h.cols,Own.own_chg h.wher k (Own.inP_of h.wher fun g h1 _ hp=>by have:=hP g hp;omega),h.ord,h.desc,h.lim⟩
structure RQSt (p K h:Nat) (w1:World) (q t:Nat) (v:Value) (fs:List NodeD) (c0 c1 c2 c3:Value) (d:TableD) (X:World):Prop where
 r0:Blk X h 26 #[.slice none 0 0]
 r1:Blk X (h+1) 29 #[.string ⟨#[]⟩,.string ⟨#[]⟩,.slice none 0 0,.slice none 0 0]
 r2:Blk X (h+1+1) 32 #[.string ⟨#[]⟩,.slice none 0 0,.slice none 0 0,.string ⟨#[]⟩,.bool false,.int .i64 0]
 tb:Blk X q 29 #[c0,c1,c2,c3]
 bx:Blk X t 26 #[v]
 nodes:NodesO X w1.heap.size v fs
 tab:TabO X w1.heap.size c0 c1 c2 c3 d
 draw:Drawn p K w1 X
section
variable {p K K' h q t:Nat} {w1 X Y:World} {v c0 c1 c2 c3:Value} {fs:List NodeD} {d:TableD}
theorem RQSt.later (s:RQSt p K h w1 q t v fs c0 c1 c2 c3 d X) (hb:Below X.heap.size X Y):RQSt p K h w1 q t v fs c0 c1 c2 c3 d Y :=
 ⟨s.r0.later hb s.r0.lt,s.r1.later hb s.r1.lt,s.r2.later hb s.r2.lt,s.tb.later hb s.tb.lt,s.bx.later hb s.bx.lt,s.nodes.later hb,s.tab.later hb,s.draw.later hb⟩
theorem RQSt.drawn (s:RQSt p K h w1 q t v fs c0 c1 c2 c3 d X) (hd:Drawn p K' X Y) (hp:p=h+1+1+1) (hq:p<q) (ht:p<t):RQSt p K' h w1 q t v fs c0 c1 c2 c3 d Y :=
 ⟨Blk.drawn s.r0 hd (by omega),Blk.drawn s.r1 hd (by omega),Blk.drawn s.r2 hd (by omega),Blk.drawn s.tb hd (by omega),Blk.drawn s.bx hd (by omega),s.nodes.drawn s.draw.src hd,s.tab.drawn s.draw.src hd,s.draw.trans hd⟩
theorem RQSt.put (s:RQSt p K h w1 q t v fs c0 c1 c2 c3 d X) {e0 e1 e2 e3:Value} {d2:TableD} (h2:TabO X w1.heap.size e0 e1 e2 e3 d2) (hp:p=h+1+1+1) (hpw:p<w1.heap.size) (hq:w1.heap.size≤q) (hqt:q≠t) :
 RQSt p K h w1 q t v fs e0 e1 e2 e3 d2 ((((X.setCell ⟨q,0,none⟩ e0).setCell ⟨q,1,none⟩ e1).setCell ⟨q,2,none⟩ e2).setCell ⟨q,3,none⟩ e3) :=
 ⟨(((s.r0.far (p:=⟨q,0,none⟩) (show h≠q by omega) e0).far (p:=⟨q,1,none⟩) (show h≠q by omega) e1).far (p:=⟨q,2,none⟩) (show h≠q by omega) e2).far (p:=⟨q,3,none⟩) (show h≠q by omega) e3,
  (((s.r1.far (p:=⟨q,0,none⟩) (show h+1≠q by omega) e0).far (p:=⟨q,1,none⟩) (show h+1≠q by omega) e1).far (p:=⟨q,2,none⟩) (show h+1≠q by omega) e2).far (p:=⟨q,3,none⟩) (show h+1≠q by omega) e3,
  (((s.r2.far (p:=⟨q,0,none⟩) (show h+1+1≠q by omega) e0).far (p:=⟨q,1,none⟩) (show h+1+1≠q by omega) e1).far (p:=⟨q,2,none⟩) (show h+1+1≠q by omega) e2).far (p:=⟨q,3,none⟩) (show h+1+1≠q by omega) e3,
  zKP s.tb e0 e1 e2 e3,
  (((s.bx.far (p:=⟨q,0,none⟩) (show t≠q by omega) e0).far (p:=⟨q,1,none⟩) (show t≠q by omega) e1).far (p:=⟨q,2,none⟩) (show t≠q by omega) e2).far (p:=⟨q,3,none⟩) (show t≠q by omega) e3,
  (((s.nodes.setBlk s.tb (by decide) (by decide)).setBlk (s.tb.set_ 0 e0) (by decide) (by decide)).setBlk ((s.tb.set_ 0 e0).set_ 1 e1) (by decide) (by decide)).setBlk (((s.tb.set_ 0 e0).set_ 1 e1).set_ 2 e2) (by decide) (by decide),
  (zAh h2 s.tb s.draw hpw hq e0 e1 e2 e3).1,(zAh h2 s.tb s.draw hpw hq e0 e1 e2 e3).2⟩
end
def zLC (w:World) (e:Ending) (w':World):Prop:=∃v fs c0 c1 c2 c3 d q0 q1 q2 q3 q4 q5 q,e=.returned (.tuple #[.agg #[v],.agg #[c0,c1,c2,c3],.agg #[q0,q1,q2,q3,q4,q5]])∧(NodesO w' w.heap.size v fs∧TabO w' w.heap.size c0 c1 c2 c3 d∧QryO w' w.heap.size q0 q1 q2 q3 q4 q5 q∧Below w.heap.size w w')∧uA fs=true∧zAW 5 d∧zKk 7 3 q
theorem zHB {m m':Nat} {d:TableD} (h:zAW m d) (hm:m≤m'):zAW m' d:=⟨h.1,h.2.1,⟨Nat.le_trans h.2.2.1.1 hm,h.2.2.1.2⟩,⟨Nat.le_trans h.2.2.2.1 hm,h.2.2.2.2⟩⟩
set_option maxRecDepth 100000 in
set_option maxHeartbeats 40000000 in
theorem zCS (A:Option Addr) (n c:Nat) (w:World) (h:BytesR w w.heap.size A n) (hn:n≤1048576) :
 Calls Tryz.prog 8 #[.slice A n c] w (zLC w):=by
 obtain⟨WB,hWB⟩:∃WB,WB=((w.alloc (.cells #[.slice none 0 0] 26)).alloc (.cells #[.string ⟨#[]⟩,.string ⟨#[]⟩,.slice none 0 0,.slice none 0 0] 29)).alloc (.cells #[.string ⟨#[]⟩,.slice none 0 0,.slice none 0 0,.string ⟨#[]⟩,.bool false,.int .i64 0] 32):=⟨_,rfl⟩;have HBB:Hid (Below w.heap.size w WB):=by subst hWB;exact wJ w _ _ _
 have HR2:Hid (Blk WB w.heap.size 26 #[.slice none 0 0]):=by subst hWB;exact zK0 _ _ _ _
 have HR3:Hid (Blk WB (w.heap.size+1) 29 #[.string ⟨#[]⟩,.string ⟨#[]⟩,.slice none 0 0,.slice none 0 0]):=by subst hWB;exact uI _ _ _ _
 have HR4:Hid (Blk WB (w.heap.size+1+1) 32 #[.string ⟨#[]⟩,.slice none 0 0,.slice none 0 0,.string ⟨#[]⟩,.bool false,.int .i64 0]):=by subst hWB;exact zI0 _ _ _ _
 have HK1:=zh (zGR A n c WB (BytesR.later' h HBB.out) hn);have hp3:WB.heap.size=w.heap.size+1+1+1:=by subst hWB;simp
 clear h hn;go_enter Tryz.func8,Tryz.ntmps8;go_wp2_with fail;rw[←hWB];clear hWB;refine HK1.out.mono ?_;rintro e w1 ⟨rfl,hs1,hb1⟩;rw[hp3]at hs1 hb1 ⊢;have HB1:=zh (HBB.out.trans (hb1.mono (by omega)));have HA2:=zh (Blk.later HR2.out (hb1.mono (Nat.le_of_eq hp3)) HR2.out.lt);have HA3:=zh (Blk.later HR3.out (hb1.mono (Nat.le_of_eq hp3)) HR3.out.lt);have HA4:=zh (Blk.later HR4.out (hb1.mono (Nat.le_of_eq hp3)) HR4.out.lt);have hw1:w.heap.size+1+1+1<w1.heap.size:=hs1.lt;generalize hp:w.heap.size+1+1+1=p at *;have HK2:=zh (zCa p 0 w1 hs1 (by omega));clear hs1 hb1 HK1 HR2 HR3 HR4 HBB hp3;go_wp2_with fail;refine HK2.out.mono ?_;rintro e w2 ⟨c0,c1,c2,c3,d,rfl,hT,htn,hd⟩;obtain⟨A2,p2,e2,_,_⟩:=Own.own_slice hT.cols;obtain⟨A3,p3,e3,_,_⟩:=Own.own_slice hT.idx;have e0:=hT.nm;have e1:=hT.gl;subst e0 e1 e2 e3;have HTN:=zh htn;have HT2:=zh hT;have HD2:=zh hd;clear hT htn hd HK2;have hw2:=HD2.out.chg.size;obtain⟨WX,hWX⟩:∃WX,WX=w2.alloc (.cells #[.string d.name,.string d.glob,.slice A2 d.cols.length p2,.slice A3 d.idx.length p3] 29):=⟨_,rfl⟩;have HX:Hid (Blk WX w2.heap.size 29 #[.string d.name,.string d.glob,.slice A2 d.cols.length p2,.slice A3 d.idx.length p3]):=by subst hWX;exact heap_alloc_new _ _
 have HDX:Hid (Drawn p (0+2) w1 WX):=by subst hWX;exact HD2.out.later (Below.new _ _)
 have HTX:Hid (TabO WX w1.heap.size (.string d.name) (.string d.glob) (.slice A2 d.cols.length p2) (.slice A3 d.idx.length p3) d):=by subst hWX;exact HT2.out.later (Below.new _ _)
 have hwx:w2.heap.size<WX.heap.size:=by subst hWX;simp
 have HKB:=zh (zGJ p (0+2) (.string d.name) (.string d.glob) (.slice A2 d.cols.length p2) (.slice A3 d.idx.length p3) d WX HDX.out.src HTX.out.reads (zCY HTN.out (by decide)) (by have:=HTN.out.2.2.1.1;omega) HTN.out.2.1 (by omega));have x0:=HX.out.cell 0;have x1:=HX.out.cell 1;have x2:=HX.out.cell 2;have x3:=HX.out.cell 3;simp at x0 x1 x2 x3;clear HT2 HD2;go_wp2_with fail;(try rw[←hWX]);clear hWX;(try go_wp2_with fail);refine HKB.out.mono ?_;rintro e w3 ⟨v3,fs,rfl,hn3,ht3,hd3⟩;obtain⟨A4,cap4,rfl,_,_⟩:=hn3.reads;have HTR:=zh ht3;have hw3:=hd3.chg.size;obtain⟨WY,hWY⟩:∃WY,WY=w3.alloc (.cells #[.slice A4 fs.length cap4] 26):=⟨_,rfl⟩;have hqt:w2.heap.size≠w3.heap.size:=by omega
 have HS:Hid (RQSt p (0+2+220) w.heap.size w1 w2.heap.size w3.heap.size (.slice A4 fs.length cap4) fs (.string d.name) (.string d.glob) (.slice A2 d.cols.length p2) (.slice A3 d.idx.length p3) d WY):=by subst hWY;have hd4:=HDX.out.trans hd3;have hb:=Below.new w3 (.cells #[.slice A4 fs.length cap4] 26);have a0:=Blk.drawn HA2.out hd4 (by omega);have a1:=Blk.drawn HA3.out hd4 (by omega);have a2:=Blk.drawn HA4.out hd4 (by omega);have a3:=Blk.drawn HX.out hd3 (by omega);exact⟨a0.later hb a0.lt,a1.later hb a1.lt,a2.later hb a2.lt,a3.later hb a3.lt,zD0 rfl,(hn3.base HDX.out.chg.size).later hb,(HTX.out.drawn HDX.out.src hd3).later hb,hd4.later hb⟩
 clear hn3 ht3 hd3 HX HDX HTX HKB HA2 HA3 HA4 x0 x1 x2 x3;have HK3:=zh (yV p (0+2+220) 12 WY HS.out.draw.src (by omega) (by omega));have hwy:w3.heap.size<WY.heap.size:=by subst hWY;simp
 go_wp2_with fail;(try rw[←hWY]);clear hWY;(try go_wp2_with fail);refine HK3.out.mono ?_;rintro e w4 ⟨bb,rfl,hd4⟩;have HS4:=zh (HS.out.drawn hd4 hp.symm (by omega) (by omega));clear hd4 HS HK3;cases bb
 · have HTN5:=zh (zHB HTN.out (show 4≤5 by omega));have HKQ:=zh (zDe p (0+2+220+2) (.string d.name) (.string d.glob) (.slice A2 d.cols.length p2) (.slice A3 d.idx.length p3) d w4.drew (yE HS4.out.draw).src (HS4.out.tab.later (Below.refl _ _).drew).reads HTN5.out.1 (by have:=HTN5.out.2.2.1.1;omega) HTN5.out.2.2.1.2 (by omega));have x0:=HS4.out.tb.cell 0;have x1:=HS4.out.tb.cell 1;have x2:=HS4.out.tb.cell 2;have x3:=HS4.out.tb.cell 3;have x4:=HS4.out.bx.cell 0;simp at x0 x1 x2 x3 x4;go_wp2_with fail
   go_region_held3 (fun w'=>w'.cell? ⟨w2.heap.size,0,none⟩=some (.string d.name)∧w'.cell? ⟨w2.heap.size,1,none⟩=some (.string d.glob)∧w'.cell? ⟨w2.heap.size,2,none⟩=some (.slice A2 d.cols.length p2)∧w'.cell? ⟨w2.heap.size,3,none⟩=some (.slice A3 d.idx.length p3)∧w'.cell? ⟨w3.heap.size,0,none⟩=some (.slice A4 fs.length cap4))
    (first | with_reducible exact⟨x0,x1,x2,x3,x4⟩ | with_reducible exact⟨y0,y1,y2,y3,y4⟩ | go_keep)
    (first
      | (go_at_call 42
         refine HKQ.out.mono ?_;rintro e w6 ⟨q0,q1,q2,q3,q4,q5,qq,rfl,hq,htq,hd6⟩;obtain⟨Q2,g2,e2,_,_⟩:=Own.own_slice hq.cols;obtain⟨Q3,g3,e3,_,_⟩:=Own.own_slice hq.wher;have e0:=hq.tb;have e1:=hq.ord;have e4:=hq.desc;have e5:=hq.lim;subst e0 e1 e2 e3 e4 e5;have HQ6:=zh (hq.base HS4.out.draw.chg.size);have HTQ:=zh htq;have HS7:=zh ((HS4.out.later (Below.refl _ _).drew).drawn hd6 hp.symm (by omega) (by omega));have y0:=HS7.out.tb.cell 0;have y1:=HS7.out.tb.cell 1;have y2:=HS7.out.tb.cell 2;have y3:=HS7.out.tb.cell 3;have y4:=HS7.out.bx.cell 0;have r0:=HS7.out.r0.cell 0;have f0:=HS7.out.r0.frozen 0;have l0:=HS7.out.r0.lt;have r10:=HS7.out.r1.cell 0;have r11:=HS7.out.r1.cell 1;have r12:=HS7.out.r1.cell 2;have r13:=HS7.out.r1.cell 3;have f10:=HS7.out.r1.frozen 0;have f11:=HS7.out.r1.frozen 1;have f12:=HS7.out.r1.frozen 2;have f13:=HS7.out.r1.frozen 3;have l1:=HS7.out.r1.lt;have r20:=HS7.out.r2.cell 0;have r21:=HS7.out.r2.cell 1;have r22:=HS7.out.r2.cell 2;have r23:=HS7.out.r2.cell 3;have r24:=HS7.out.r2.cell 4;have r25:=HS7.out.r2.cell 5;have f20:=HS7.out.r2.frozen 0;have f21:=HS7.out.r2.frozen 1;have f22:=HS7.out.r2.frozen 2;have f23:=HS7.out.r2.frozen 3;have f24:=HS7.out.r2.frozen 4;have f25:=HS7.out.r2.frozen 5;have l2:=HS7.out.r2.lt;have n2:w.heap.size≠w2.heap.size:=by omega
         have n3:w.heap.size+1≠w2.heap.size:=by omega
         have n4:w.heap.size+1+1≠w2.heap.size:=by omega
         have n5:w.heap.size≠w3.heap.size:=by omega
         have n6:w.heap.size+1≠w3.heap.size:=by omega
         have n7:w.heap.size+1+1≠w3.heap.size:=by omega
         simp at y0 y1 y2 y3 y4 r0 r10 r11 r12 r13 r20 r21 r22 r23 r24 r25
         clear hq htq hd6))
   all_goals
    clear x0 x1 x2 x3 x4;go_wp2_with fail;refine bodyPost_ret (v:=.tuple #[.agg #[.slice A4 fs.length cap4],.agg #[.string d.name,.string d.glob,.slice A2 d.cols.length p2,.slice A3 d.idx.length p3],.agg #[.string qq.table,.slice Q2 qq.cols.length g2,.slice Q3 qq.wher.length g3,.string qq.order,.bool qq.desc,.int .i64 qq.limit]]) (by simp[results,Tryz.results8,go_sem,r0,r10,r11,r12,r13,r20,r21,r22,r23,r24,r25]) rfl ?_;refine⟨_,fs,_,_,_,_,d,_,_,_,_,_,_,qq,rfl,(fun (k:Own.Chg (fun g=>g=w.heap.size∨g=w.heap.size+1∨g=w.heap.size+1+1) w6 _)=>⟨(zDR k (fun g hg=>by omega) HS7.out.nodes).base (by omega),(zGf k (fun g hg=>by omega) HS7.out.tab).base (by omega),(zGr k (fun g hg=>by omega) HQ6.out).base (by omega),Own.Chg.below (Drawn.below HB1.out HS7.out.draw (by omega) (Nat.le_refl _)) k (fun g hg=>by omega) (Nat.le_refl _)⟩) ?_,HTR.out,HTN5.out,HTQ.out⟩
    (repeat (first | (with_reducible exact Own.Chg.refl _ _) | ((with_reducible refine xN ?_ ?_);rotate_left;(focus (first | exact .inl rfl | exact .inr (.inl rfl) | exact .inr (.inr rfl))))))
 · have HK4:=zh (zDs p (0+2+220+2) w4 HS4.out.draw.src (by omega));go_wp2_with fail;refine HK4.out.mono ?_;rintro e w5 ⟨f0,f1,f2,f3,d5,rfl,hT5,htn5,hd5⟩;obtain⟨A6,p6,e2,_,_⟩:=Own.own_slice hT5.cols;obtain⟨A7,p7,e3,_,_⟩:=Own.own_slice hT5.idx;have e0:=hT5.nm;have e1:=hT5.gl;subst e0 e1 e2 e3;have HTN5:=zh htn5;have HS5:=zh (HS4.out.drawn hd5 hp.symm (by omega) (by omega));have HS6:=zh (HS5.out.put (hT5.base HS4.out.draw.chg.size) hp.symm hw1 (by omega) hqt);obtain⟨WZ,hWZ⟩:∃WZ,WZ=((((w5.setCell ⟨w2.heap.size,0,none⟩ (.string d5.name)).setCell ⟨w2.heap.size,1,none⟩ (.string d5.glob)).setCell ⟨w2.heap.size,2,none⟩ (.slice A6 d5.cols.length p6)).setCell ⟨w2.heap.size,3,none⟩ (.slice A7 d5.idx.length p7)):=⟨_,rfl⟩;rw[←hWZ]at HS6;have b0:=HS5.out.tb.cell 0;have b1:=HS5.out.tb.cell 1;have b2:=HS5.out.tb.cell 2;have b3:=HS5.out.tb.cell 3;have k0:=HS5.out.tb.frozen 0;have k1:=HS5.out.tb.frozen 1;have k2:=HS5.out.tb.frozen 2;have k3:=HS5.out.tb.frozen 3;have bz:=HS5.out.tb.lt;simp at b0 b1 b2 b3;clear hT5 htn5 hd5 HK4 HTN HS4 HS5;go_wp2_with fail;(try rw[←hWZ]);clear hWZ b0 b1 b2 b3 k0 k1 k2 k3 bz;(try go_wp2_with fail);have HKQ:=zh (zDe p (0+2+220+2+6) (.string d5.name) (.string d5.glob) (.slice A6 d5.cols.length p6) (.slice A7 d5.idx.length p7) d5 WZ.drew (yE HS6.out.draw).src (HS6.out.tab.later (Below.refl _ _).drew).reads HTN5.out.1 (by have:=HTN5.out.2.2.1.1;omega) HTN5.out.2.2.1.2 (by omega));have x0:=HS6.out.tb.cell 0;have x1:=HS6.out.tb.cell 1;have x2:=HS6.out.tb.cell 2;have x3:=HS6.out.tb.cell 3;have x4:=HS6.out.bx.cell 0;simp at x0 x1 x2 x3 x4
   go_region_held3 (fun w'=>w'.cell? ⟨w2.heap.size,0,none⟩=some (.string d5.name)∧w'.cell? ⟨w2.heap.size,1,none⟩=some (.string d5.glob)∧w'.cell? ⟨w2.heap.size,2,none⟩=some (.slice A6 d5.cols.length p6)∧w'.cell? ⟨w2.heap.size,3,none⟩=some (.slice A7 d5.idx.length p7)∧w'.cell? ⟨w3.heap.size,0,none⟩=some (.slice A4 fs.length cap4))
    (first | with_reducible exact⟨x0,x1,x2,x3,x4⟩ | with_reducible exact⟨y0,y1,y2,y3,y4⟩ | go_keep)
    (first
      | (go_at_call 42
         refine HKQ.out.mono ?_;rintro e w6 ⟨q0,q1,q2,q3,q4,q5,qq,rfl,hq,htq,hd6⟩;obtain⟨Q2,g2,e2,_,_⟩:=Own.own_slice hq.cols;obtain⟨Q3,g3,e3,_,_⟩:=Own.own_slice hq.wher;have e0:=hq.tb;have e1:=hq.ord;have e4:=hq.desc;have e5:=hq.lim;subst e0 e1 e2 e3 e4 e5;have HQ6:=zh (hq.base HS6.out.draw.chg.size);have HTQ:=zh htq;have HS7:=zh ((HS6.out.later (Below.refl _ _).drew).drawn hd6 hp.symm (by omega) (by omega));have y0:=HS7.out.tb.cell 0;have y1:=HS7.out.tb.cell 1;have y2:=HS7.out.tb.cell 2;have y3:=HS7.out.tb.cell 3;have y4:=HS7.out.bx.cell 0;have r0:=HS7.out.r0.cell 0;have f0:=HS7.out.r0.frozen 0;have l0:=HS7.out.r0.lt;have r10:=HS7.out.r1.cell 0;have r11:=HS7.out.r1.cell 1;have r12:=HS7.out.r1.cell 2;have r13:=HS7.out.r1.cell 3;have f10:=HS7.out.r1.frozen 0;have f11:=HS7.out.r1.frozen 1;have f12:=HS7.out.r1.frozen 2;have f13:=HS7.out.r1.frozen 3;have l1:=HS7.out.r1.lt;have r20:=HS7.out.r2.cell 0;have r21:=HS7.out.r2.cell 1;have r22:=HS7.out.r2.cell 2;have r23:=HS7.out.r2.cell 3;have r24:=HS7.out.r2.cell 4;have r25:=HS7.out.r2.cell 5;have f20:=HS7.out.r2.frozen 0;have f21:=HS7.out.r2.frozen 1;have f22:=HS7.out.r2.frozen 2;have f23:=HS7.out.r2.frozen 3;have f24:=HS7.out.r2.frozen 4;have f25:=HS7.out.r2.frozen 5;have l2:=HS7.out.r2.lt;have n2:w.heap.size≠w2.heap.size:=by omega
         have n3:w.heap.size+1≠w2.heap.size:=by omega
         have n4:w.heap.size+1+1≠w2.heap.size:=by omega
         have n5:w.heap.size≠w3.heap.size:=by omega
         have n6:w.heap.size+1≠w3.heap.size:=by omega
         have n7:w.heap.size+1+1≠w3.heap.size:=by omega
         simp at y0 y1 y2 y3 y4 r0 r10 r11 r12 r13 r20 r21 r22 r23 r24 r25
         clear hq htq hd6))
   all_goals
    clear x0 x1 x2 x3 x4;go_wp2_with fail;refine bodyPost_ret (v:=.tuple #[.agg #[.slice A4 fs.length cap4],.agg #[.string d5.name,.string d5.glob,.slice A6 d5.cols.length p6,.slice A7 d5.idx.length p7],.agg #[.string qq.table,.slice Q2 qq.cols.length g2,.slice Q3 qq.wher.length g3,.string qq.order,.bool qq.desc,.int .i64 qq.limit]]) (by simp[results,Tryz.results8,go_sem,r0,r10,r11,r12,r13,r20,r21,r22,r23,r24,r25]) rfl ?_;refine⟨_,fs,_,_,_,_,d5,_,_,_,_,_,_,qq,rfl,(fun (k:Own.Chg (fun g=>g=w.heap.size∨g=w.heap.size+1∨g=w.heap.size+1+1) w6 _)=>⟨(zDR k (fun g hg=>by omega) HS7.out.nodes).base (by omega),(zGf k (fun g hg=>by omega) HS7.out.tab).base (by omega),(zGr k (fun g hg=>by omega) HQ6.out).base (by omega),Own.Chg.below (Drawn.below HB1.out HS7.out.draw (by omega) (Nat.le_refl _)) k (fun g hg=>by omega) (Nat.le_refl _)⟩) ?_,HTR.out,HTN5.out,HTQ.out⟩
    (repeat (first | (with_reducible exact Own.Chg.refl _ _) | ((with_reducible refine xN ?_ ?_);rotate_left;(focus (first | exact .inl rfl | exact .inr (.inl rfl) | exact .inr (.inr rfl))))))
end Go.Proofs.YtfpcjhajjejpdaaGreatDoor
