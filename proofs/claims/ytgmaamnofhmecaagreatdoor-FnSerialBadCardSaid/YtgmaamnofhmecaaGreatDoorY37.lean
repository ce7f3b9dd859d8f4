import Derived.Test.YtgmaamnofhmecaaGreatDoorY36
import Derived.Test.YtgmaamnofhmecaaGreatDoorY30
import Derived.Test.YtgmaamnofhmecaaGreatDoorY34
set_option linter.unusedSimpArgs false
namespace Go.Proofs.YtgmaamnofhmecaaGreatDoor
open Go.RowKit
set_option linter.unusedVariables false
theorem uS {w:World} {a b:Addr} {u v:Value} (h:a.block≠b.block) (hc:w.cell? b=some v):(w.setCell a u).cell? b=some v :=
 by rw[World.cell?_setCell_other];exact hc;exact fun e=>h (by rw[e])
theorem zCB {d:EvD} (h:d.small):(yG d).small:=h
theorem zKu {w:World} {B:Nat} {A:Option Addr} {m c:Nat} {d:ChgD} (h:Own.SubO w B (.slice A m c) d.subs) (hB:True):ChgR w w.heap.size (.int .i64 d.kind) (.string d.name) (.slice A m c) (.string d.val) d:=by
 obtain⟨A1,cap1,e1,hc1,hs1⟩:=h.strs;cases e1;exact⟨rfl,rfl,⟨A,_,c,rfl,hs1,hc1⟩,rfl⟩
theorem zHD {fs:List NodeD} {e:EvD} (ht:xA fs=true) (h:noteB e=true) (hk:uB e=true):uJ fs (yG e)=yD fs e:=by
 unfold uJ yD;rw[ht,zGe h hk,hk];rfl
set_option maxRecDepth 100000 in
set_option maxHeartbeats 4000000 in
theorem zCu (A:Option Addr) (n c:Nat) (fs:List NodeD) (c0 c1 c2 c3 c4:Value) (d:EvD) (w:World) (hN:Nodes w w.heap.size A n fs) (hnc:n≤c) (hs:yC fs) (h:EvR w w.heap.size c0 c1 c2 c3 c4 d) (hsm:d.small) :
 Calls Tryz.prog 82 #[.agg #[.slice A n c],.agg #[c0,c1,c2,c3,c4]] w (zAM (uJ fs (yG d)) w):=by
 have HKC:=Lib.hid (fun W (hW:Below w.heap.size w W)=>zEf c0 c1 c2 c3 c4 d W (h.later hW) hsm.2.1.1);have HKD:=Lib.hid (fun d0 d1 d2 d3 W (hW:Below w.heap.size w W) (hr:ChgR W W.heap.size d0 d1 d2 d3 (yG d))=>zFI A n c d0 d1 d2 d3 fs (yG d) W (hN.later hW) hnc hs hr (zCB hsm));obtain⟨rfl,rfl,⟨S,m,q,rfl,_,_⟩,rfl,rfl⟩:=h;clear hN hs hsm;generalize uJ fs (yG d)=PB at *;generalize yG d=C at *;generalize d.subs=ss at *;generalize d.name=nm at *;generalize d.val=vl at *;generalize d.kind=kd at *;generalize d.n=nn at *;obtain⟨WB,hWB⟩:∃WB,WB=((w.alloc (.cells #[.slice A n c] 26)).alloc (.cells #[.int .i64 kd,.string nm,.slice S m q,.string vl,.int .i64 nn] 55)).alloc (.cells #[.slice none 0 0] 26):=⟨_,rfl⟩;have HB0:Hid (Below w.heap.size w WB):=by subst hWB;exact zM0 w _ _ _
 have HTT:Hid (Blk WB w.heap.size 26 #[.slice A n c]):=by subst hWB;exact xS _ _ _ _
 have HEE:Hid (Blk WB (w.heap.size+1) 55 #[.int .i64 kd,.string nm,.slice S m q,.string vl,.int .i64 nn]):=by subst hWB;exact wO _ _ _ _
 have HYY:Hid (Blk WB (w.heap.size+1+1) 26 #[.slice none 0 0]):=by subst hWB;exact yS _ _ _ _
 have q0:=HEE.out.cell 0;have q1:=HEE.out.cell 1;have q2:=HEE.out.cell 2;have q3:=HEE.out.cell 3;have q4:=HEE.out.cell 4;have q5:=HTT.out.cell 0;have hwb:=HB0.out.size;have hwy:=HYY.out.lt;have hwe:=HEE.out.lt;have hwt:=HTT.out.lt;simp at q0 q1 q2 q3 q4 q5;have HS:Hid (∀W,Below WB.heap.size WB W→(W.cell? ⟨w.heap.size,0,none⟩=some (.slice A n c)∧W.cell? ⟨w.heap.size+1,0,none⟩=some (.int .i64 kd)∧W.cell? ⟨w.heap.size+1,1,none⟩=some (.string nm)∧W.cell? ⟨w.heap.size+1,2,none⟩=some (.slice S m q)∧W.cell? ⟨w.heap.size+1,3,none⟩=some (.string vl)∧W.cell? ⟨w.heap.size+1,4,none⟩=some (.int .i64 nn))):=fun W hW=>⟨cell_later hW q5,cell_later hW q0,cell_later hW q1,cell_later hW q2,cell_later hW q3,cell_later hW q4⟩;have hne0:w.heap.size≠w.heap.size+1+1:=by omega
 have hne1:¬w.heap.size+1+1=w.heap.size:=by omega
 have hne2:¬w.heap.size=w.heap.size+1+1:=by omega
 clear HEE HTT;go_enter Tryz.func82,Tryz.ntmps82;go_wp2_with fail;rw[←hWB];clear hWB
 go_region_held3 (fun W=>W.cell? ⟨w.heap.size,0,none⟩=some (.slice A n c)∧W.cell? ⟨w.heap.size+1,0,none⟩=some (.int .i64 kd)∧W.cell? ⟨w.heap.size+1,1,none⟩=some (.string nm)∧W.cell? ⟨w.heap.size+1,2,none⟩=some (.slice S m q)∧W.cell? ⟨w.heap.size+1,3,none⟩=some (.string vl)∧W.cell? ⟨w.heap.size+1,4,none⟩=some (.int .i64 nn))
  (first | exact HS.out _ (Below.refl _ _).drew | exact HS.out _ HB1.out | exact HS.out _ HB2.out | (obtain⟨z0,z1,z2,z3,z4,z5⟩:=HS.out _ HB2.out;exact⟨uS (by simp;omega) z0,uS (by simp) z1,uS (by simp) z2,uS (by simp) z3,uS (by simp) z4,uS (by simp) z5⟩) | go_keep)
  (first
    | (go_at_call 156
       refine(HKC.out _ (by exact HB0.out.drew)).mono ?_;rintro e w1 ⟨v1,rfl,ho1',hb1'⟩;have HB1:=Lib.hid (zD0 hb1');obtain⟨A1,m1,q1x,rfl⟩:∃A1 m1 q1x,v1=.slice A1 m1 q1x:=by obtain⟨A,cap,e,_⟩:=Own.own_slice ho1';exact⟨A,_,cap,e⟩
       have HCR:=Lib.hid (zKu ho1' trivial)
       clear hb1' ho1')
    | (go_at_call 66
       refine(HKD.out _ _ _ _ _ (HB0.out.later HB1.out) HCR.out).mono ?_;rintro e w2 ⟨v2,rfl,hN2,hb2⟩;have HB2:=Lib.hid (HB1.out.later hb2);obtain⟨A2,cap2,rfl,_,_⟩:=hN2.reads;have HN2:=Lib.hid (hN2.base (by have:=HB1.out.size;omega:w.heap.size≤_));have HY2:=Lib.hid (HYY.out.later HB2.out HYY.out.lt);have y0:=HY2.out.cell 0;have yf:=HY2.out.frozen 0;have yz:=HY2.out.lt;simp at y0
       clear hb2 hN2))
 go_wp2_with fail;refine bodyPost_ret (v:=.tuple #[.agg #[.slice A2 _ cap2],.int .i64 _]) (by simp[results,Tryz.results82,go_sem,y0];try first | exact rfl | exact⟨rfl,rfl⟩) rfl ?_;exact⟨_,rfl,HN2.out.setBlk HY2.out (by decide) (by decide),(HB0.out.later HB2.out).setCell (show w.heap.size≤w.heap.size+1+1 by omega) _⟩
end Go.Proofs.YtgmaamnofhmecaaGreatDoor
