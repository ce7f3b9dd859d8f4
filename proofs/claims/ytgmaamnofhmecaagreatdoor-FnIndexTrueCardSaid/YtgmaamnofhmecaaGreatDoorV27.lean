import Derived.Test.YtgmaamnofhmecaaGreatDoorV23
import Derived.Test.YtgmaamnofhmecaaGreatDoorV26
open Go.Lib renaming hid → zh
namespace Go.Proofs.YtgmaamnofhmecaaGreatDoor
open Go.RowKit
set_option linter.unusedVariables false
set_option maxRecDepth 100000 in
set_option maxHeartbeats 4000000 in
theorem zCq (A:Option Addr) (n c:Nat) (b0 b1 b2 b3 r0:Value) (fs:List NodeD) (b:TableD) (r:List ByteArray) (w:World) (ht:Nodes w w.heap.size A n fs) (hb:TableR w w.heap.size b0 b1 b2 b3 b) (h:RowR w w.heap.size r0 r) (hts:wB fs) (hbs:b.small) (hsm:wL r) :
 Calls Tryz.prog 186 #[.agg #[.slice A n c],.agg #[b0,b1,b2,b3],.agg #[r0]] w (zBD (zIl fs b r) w):=by
 have HK1:=zh (fun W (hW:Below w.heap.size w W)=>uG A n c fs W (ht.later hW) hts);have HK2:=zh (fun W (hW:Below w.heap.size w W)=>zAu b0 b1 b2 b3 b W (hb.later hW) hbs);have HK3:Hid (zF0 b=true→∀W (hW:Below w.heap.size w W),Calls Tryz.prog 57 #[.agg #[b0,b1,b2,b3],.agg #[r0]] W fun e w'=>e=.returned (.bool (vC b.cols r))∧Below W.heap.size W w'):=fun h1 W hW=>zCe b0 b1 b2 b3 r0 b r W (hb.later hW) (h.later hW) hsm (by have:=(vA h1).2.1;omega);have HK4:=zh (fun W (hW:Below w.heap.size w W)=>zAL A n c b0 b1 b2 b3 fs b W (ht.later hW) (hb.later hW) hts)
 have HK5:Hid (zF0 b=true→vC b.cols r=true→∀W (hW:Below w.heap.size w W),Calls Tryz.prog 70 #[.agg #[b0,b1,b2,b3],.agg #[r0]] W (xN (xT b.glob r::yG 1 b r) W)):=fun h1 h2 W hW=>by
  obtain⟨f1,f2,f3,f4,f5⟩:=vA h1;have hrl:r.length=b.cols.length:=by unfold vC at h2;simp only[Bool.and_eq_true,decide_eq_true_eq]at h2;exact h2.1
  exact zBV b0 b1 b2 b3 r0 b r W (hb.later hW) (h.later hW) hsm (by omega) (by omega) (by omega) (fun x hx=>⟨by have:=f5 x hx;omega,by have:=(xJ b.cols x).2;have:=f5 x hx;omega⟩)
 have HL:=zh (zEh (g:=b.glob) hts);have H2:=zh (zBk (g:=b.glob) (fs:=fs));have HPOS:Hid (zF0 b=true→vC b.cols r=true→0<r.length):=fun h1 h2=>by have f2:=(vA h1).2.1;unfold vC at h2;simp only[Bool.and_eq_true,decide_eq_true_eq]at h2;omega
 have HR:Hid (zIl fs b r=if (xA fs&&(zF0 b&&vC b.cols r))=true then
  (if 0≤atI (yA b.glob fs) (r.getD 0 ByteArray.empty) then (5,[]) else if 24≤(yA b.glob fs).length then (4,[]) else (0,xT b.glob r::yG 1 b r)) else (1,[])):=rfl
 obtain⟨rfl,rfl,⟨A2,n2,p2,rfl,s2,k2⟩,⟨A3,n3,p3,rfl,s3,k3⟩⟩:=hb;obtain⟨A4,n4,p4,rfl,hrs,k4⟩:=h;have HRS:=zh hrs;have HRL:=zh hrs.1;clear s2 s3 ht hts hbs hrs hsm;generalize zIl fs b r=R at *;generalize xT b.glob r::yG 1 b r=IL at *;generalize xA fs=xt at *;generalize zF0 b=xb at *;generalize vC b.cols r=xr at *;generalize yA b.glob fs=ns at *;generalize b.name=nm at *;generalize b.glob=gl at *;obtain⟨WB,hWB⟩:∃WB,WB=((w.alloc (.cells #[.slice A n c] 26)).alloc (.cells #[.string nm,.string gl,.slice A2 n2 p2,.slice A3 n3 p3] 29)).alloc (.cells #[.slice A4 n4 p4] 31):=⟨_,rfl⟩;have HX0:Hid (Blk WB w.heap.size 26 #[.slice A n c]):=by subst hWB;exact wN _ _ _ _
 have HX1:Hid (Blk WB (w.heap.size+1) 29 #[.string nm,.string gl,.slice A2 n2 p2,.slice A3 n3 p3]):=by subst hWB;exact wK _ _ _ _
 have HX2:Hid (Blk WB (w.heap.size+1+1) 31 #[.slice A4 n4 p4]):=by subst hWB;exact wJ _ _ _ _
 have HBB:Hid (Below w.heap.size w WB):=by subst hWB;exact zL0 w _ _ _
 have HS1:Hid (∀W',Below WB.heap.size WB W'→(W'.cell? ⟨w.heap.size,0,none⟩=some (.slice A n c)∧W'.cell? ⟨w.heap.size+1,0,none⟩=some (.string nm)∧W'.cell? ⟨w.heap.size+1,1,none⟩=some (.string gl)∧W'.cell? ⟨w.heap.size+1,2,none⟩=some (.slice A2 n2 p2)∧W'.cell? ⟨w.heap.size+1,3,none⟩=some (.slice A3 n3 p3)∧W'.cell? ⟨w.heap.size+1+1,0,none⟩=some (.slice A4 n4 p4))):=fun W' hW=>⟨(HX0.out.later hW HX0.out.lt).at 0 rfl,(HX1.out.later hW HX1.out.lt).at 0 rfl,(HX1.out.later hW HX1.out.lt).at 1 rfl,(HX1.out.later hW HX1.out.lt).at 2 rfl,(HX1.out.later hW HX1.out.lt).at 3 rfl,(HX2.out.later hW HX2.out.lt).at 0 rfl⟩;go_enter Tryz.func186,Tryz.ntmps186;go_wp2_with fail;rw[←hWB];clear hWB;refine(HK1.out _ HBB.out).mono ?_;rintro e w1 ⟨rfl,hb1⟩;have HB1:=zh hb1;clear hb1;cases xt
 · have HE:Hid (R=(1,[])):=by unfold Hid;rw[HR.out];rfl
   go_wp2_with fail;refine bodyPost_ret (v:=.tuple #[.slice (some ⟨_,0,none⟩) 0 0,.int .i64 _]) (by simp[results,Tryz.results186,go_sem];try exact⟨rfl,rfl⟩) rfl ?_;exact⟨_,by rw[HE.out],by rw[HE.out];exact vH _ _ (HBB.out.later HB1.out).size,(HBB.out.later HB1.out).later (Below.new _ _)⟩
 obtain⟨x0,x1,x2,x3,x4,x5⟩:=HS1.out _ HB1.out;go_wp2_with fail;refine(HK2.out _ (HBB.out.later HB1.out)).mono ?_;rintro e w2 ⟨rfl,hb2⟩;have HB2:=zh (HB1.out.later hb2);clear hb2 x0 x1 x2 x3 x4 x5;cases xb
 · have HE:Hid (R=(1,[])):=by unfold Hid;rw[HR.out];rfl
   go_wp2_with fail;refine bodyPost_ret (v:=.tuple #[.slice (some ⟨_,0,none⟩) 0 0,.int .i64 _]) (by simp[results,Tryz.results186,go_sem];try exact⟨rfl,rfl⟩) rfl ?_;exact⟨_,by rw[HE.out],by rw[HE.out];exact vH _ _ (HBB.out.later HB2.out).size,(HBB.out.later HB2.out).later (Below.new _ _)⟩
 obtain⟨x0,x1,x2,x3,x4,x5⟩:=HS1.out _ HB2.out;go_wp2_with fail;refine(HK3.out (by first | rfl | trivial) _ (HBB.out.later HB2.out)).mono ?_;rintro e w3 ⟨rfl,hb3⟩;have HB3:=zh (HB2.out.later hb3);clear hb3 x0 x1 x2 x3 x4 x5;cases xr
 · have HE:Hid (R=(1,[])):=by unfold Hid;rw[HR.out];rfl
   go_wp2_with fail;refine bodyPost_ret (v:=.tuple #[.slice (some ⟨_,0,none⟩) 0 0,.int .i64 _]) (by simp[results,Tryz.results186,go_sem];try exact⟨rfl,rfl⟩) rfl ?_;exact⟨_,by rw[HE.out],by rw[HE.out];exact vH _ _ (HBB.out.later HB3.out).size,(HBB.out.later HB3.out).later (Below.new _ _)⟩
 obtain⟨x0,x1,x2,x3,x4,x5⟩:=HS1.out _ HB3.out;have hpos:=HPOS.out (by first | rfl | trivial) (by first | rfl | trivial);have HK6:=zh (HK5.out (by first | rfl | trivial) (by first | rfl | trivial));have HRB:Hid (R=if 0≤atI ns (r.getD 0 ByteArray.empty) then (5,[]) else if 24≤ns.length then (4,[]) else (0,IL)):=by unfold Hid;rw[HR.out];rfl
 clear HK5 HPOS HR;go_wp2_with fail;refine(HK4.out _ (HBB.out.later HB3.out)).mono ?_;rintro e w4 ⟨v,cs,rfl,ho,hc,hb4⟩;obtain⟨A5,cap5,rfl,hcap5,hN5⟩:=uI ho rfl hc hb4;have HN5:=zh hN5;have HB4:=zh (HB3.out.later hb4);clear hb4 ho hc hN5 x0 x1 x2 x3 x4 x5;obtain⟨x0,x1,x2,x3,x4,x5⟩:=HS1.out _ HB4.out;rw[HRL.out]at hpos;obtain⟨rb,ro,rfl,hrb,hrc⟩:=HRS.out.2 hpos;have hr0:=((HBB.out.later HB4.out).cell (p:=⟨rb,ro,none⟩) hrb).trans (hrc 0 hpos);have HKA:=zh (fun W (hW:Below w4.heap.size w4 W)=>zFv A5 ns.length cap5 ns (r.getD 0 ByteArray.empty) W (HN5.out.later hW) HL.out H2.out);have HNL:=zh HL.out;clear hrc;generalize r.getD 0 ByteArray.empty=key at *;generalize atI ns key=ix at *;generalize hnl:ns.length=nl at *;have hnl2:nl≤1048576:=by have:=HNL.out;omega
 clear hnl;go_wp2_with fail
 first
   | (refine(HKA.out _ (by exact(Below.refl _ _))).mono ?_
      rintro e w5 ⟨rfl,hb5⟩)
   | (go_region_held3 (fun W'=>W'.cell? ⟨w.heap.size+1+1,0,none⟩=some (.slice (some ⟨rb,ro,none⟩) n4 p4)∧W'.cell? ⟨rb,ro,none⟩=some (.string key)) (first | exact⟨x5,hr0⟩ | exact⟨cell_later hb5 x5,cell_later hb5 hr0⟩)
       ((go_at_call 136;refine(HKA.out _ (by exact(Below.refl _ _).drew)).mono ?_;rintro e w5 ⟨rfl,hb5'⟩;have hb5:=zD0 hb5';clear hb5')))
 have HB5:=zh (HB4.out.later hb5);clear hb5 x0 x1 x2 x3 x4 x5 hr0;obtain⟨x0,x1,x2,x3,x4,x5⟩:=HS1.out _ HB5.out;by_cases h0:0≤ix
 · have HE:Hid (R=(5,[])):=by unfold Hid;rw[HRB.out,if_pos h0]
   go_wp2_with fail;refine bodyPost_ret (v:=.tuple #[.slice (some ⟨_,0,none⟩) 0 0,.int .i64 _]) (by simp[results,Tryz.results186,go_sem];try exact⟨rfl,rfl⟩) rfl ?_;exact⟨_,by rw[HE.out],by rw[HE.out];exact vH _ _ (HBB.out.later HB5.out).size,(HBB.out.later HB5.out).later (Below.new _ _)⟩
 by_cases h24:24≤nl
 · have HE:Hid (R=(4,[])):=by unfold Hid;rw[HRB.out,if_neg h0,if_pos h24]
   go_wp2_with fail;refine bodyPost_ret (v:=.tuple #[.slice (some ⟨_,0,none⟩) 0 0,.int .i64 _]) (by simp[results,Tryz.results186,go_sem];try exact⟨rfl,rfl⟩) rfl ?_;exact⟨_,by rw[HE.out],by rw[HE.out];exact vH _ _ (HBB.out.later HB5.out).size,(HBB.out.later HB5.out).later (Below.new _ _)⟩
 have HE:Hid (R=(0,IL)):=by unfold Hid;rw[HRB.out,if_neg h0,if_neg h24]
 go_wp2_with fail;refine(HK6.out _ (HBB.out.later HB5.out)).mono ?_;rintro e w6 ⟨v6,rfl,hc6,hb6⟩;obtain⟨A6,cap6,rfl,_,_⟩:=hc6.reads;have HC6:=zh (hc6.base (HBB.out.later HB5.out).size);have HB6:=zh ((HBB.out.later HB5.out).later hb6);clear hc6 hb6 x0 x1 x2 x3 x4 x5;go_wp2_with fail;refine bodyPost_ret (v:=.tuple #[.slice A6 _ cap6,.int .i64 _]) (by simp[results,Tryz.results186,go_sem];try exact⟨rfl,rfl⟩) rfl ?_;exact⟨_,by rw[HE.out],by rw[HE.out];exact HC6.out,HB6.out⟩
end Go.Proofs.YtgmaamnofhmecaaGreatDoor
namespace Go.Proofs.YtgmaamnofhmecaaGreatDoor
open Go.RowKit
set_option linter.unusedVariables false
def zCj (g:ByteArray) (cols old r:List ByteArray) (c:ByteArray):List ChgD:=if cellAt cols old c=cellAt cols r c then [] else zI0 2 g cols old c++zI0 1 g cols r c
def zQ0 (b:TableD) (old r:List ByteArray):List ChgD:=b.idx.flatMap (zCj b.glob b.cols old r)
def zAH (fs:List NodeD) (b:TableD) (r:List ByteArray):Int × List ChgD :=
 if (xA fs&&(zF0 b&&vC b.cols r))=true then
  (if (uF b.cols (yA b.glob fs) (r.getD 0 ByteArray.empty)).1=0 then (0,xT b.glob r::zQ0 b (uF b.cols (yA b.glob fs) (r.getD 0 ByteArray.empty)).2 r) else ((uF b.cols (yA b.glob fs) (r.getD 0 ByteArray.empty)).1,[]))
 else (1,[])
def zAx (g:ByteArray):ChgD:=⟨2,g,[iS],⟨#[]⟩⟩
def zKY (b:TableD) (rs:List (List ByteArray)):List ChgD:=zAx b.glob::rs.flatMap (yG 1 b)
def vX (fs:List NodeD) (b:TableD):Int × List ChgD:=if (wD fs b).1=0 then (0,zKY b (wD fs b).2) else ((wD fs b).1,[])
theorem zLQ {A B C D:Type} {G:A→B→C→D→Prop} {P:Prop} (H:A→B→C→D→Prop) (m:(∀a b c d,H a b c d→G a b c d)→P) (t:∀a b c d,H a b c d→G a b c d):P:=m t
end Go.Proofs.YtgmaamnofhmecaaGreatDoor
