import Derived.Test.YtgmaamnofhmecaaGreatDoorY46
import Derived.Test.YtgmaamnofhmecaaGreatDoorY04
import Derived.Test.YtgmaamnofhmecaaGreatDoorY40
set_option linter.unusedSimpArgs false
set_option maxHeartbeats 8000000
open Go.Lib renaming hid → zh
namespace Go.Proofs.YtgmaamnofhmecaaGreatDoor
open Go.RowKit
set_option linter.unusedVariables false
def zGS (r:Int × Nat × List NodeD) (w:World) (e:Ending) (w':World):Prop:=∃v,e=.returned (.tuple #[.agg #[v],.int .i64 r.2.1,.int .i64 r.1])∧NodesW w' w.heap.size v r.2.2∧Below w.heap.size w w'
theorem zO0 (w:World) (base:Nat):NodesW w base (.slice none 0 0) []:=(wI w base).W
set_option maxRecDepth 100000 in
theorem zHU (A:Option Addr) (n c:Nat) (L:Option Addr) (m q:Nat) (fs:List NodeD) (l:List EvD) (w:World) (htab:uG w) (hN:Nodes w w.heap.size A n fs) (hs:yC fs) (hcl:uE fs) (hL:Evs w w.heap.size L m l) (hok:zIC l) (hce:zAY l) :
 Calls Tryz.prog 30 #[.agg #[.slice A n c],.slice L m q] w (zGS (replB fs l) w):=by
 have HK1:=zh (fun W (hW:Below w.heap.size w W)=>zAf A n c fs W (hN.later hW) (wA htab hW) hs);have HK2:=zh (fun W (hW:Below w.heap.size w W)=>zCr L m q l W (wA htab hW) (hL.later hW) hok);have HK3:=zh (fun W (hW:Below w.heap.size w W)=>zBJ A n c fs W (hN.later hW) hs);have HTAB:=zh htab;have HLC:=zh hL;have HLL:=zh hL.1;have HAL:=zh hok.2;have HCE:=zh hce;have HC0:=zh hcl;have HNA:=zh (fun h=>uR (l:=l) h);have HR:Hid (replB fs l=if (xA fs&&notesB l)=true then yI fs l 0 else (1,0,[])):=rfl;clear htab hN hs hcl hL hok hce;generalize replB fs l=PB at *;generalize hx:xA fs=x at *;generalize hy:notesB l=y at *;have HX:=zh hx;have HY:=zh hy;clear hx hy;obtain⟨WB,hWB⟩:∃WB,WB=(w.alloc (.cells #[.slice A n c] 26)).alloc (.cells #[.slice none 0 0] 26):=⟨_,rfl⟩;have HB0:Hid (Below w.heap.size w WB):=by subst hWB;exact(Below.new _ _).later (Below.new _ _)
 have HX0:Hid (Blk WB w.heap.size 26 #[.slice A n c]):=by subst hWB;exact uD _ _ _
 have HY0:Hid (Blk WB (w.heap.size+1) 26 #[.slice none 0 0]):=by subst hWB;exact xD _ _ _
 go_enter Tryz.func30,Tryz.ntmps30;go_wp2_with fail;rw[←hWB];clear hWB;refine(HK1.out _ HB0.out).mono ?_;rintro e w1 ⟨rfl,hb1⟩;have HB1:=zh (HB0.out.later hb1);have HX1:=zh (HX0.out.later hb1 HX0.out.lt);have HY1:=zh (HY0.out.later hb1 HY0.out.lt);have px:=HX1.out.cell 0;have py:=HY1.out.cell 0;have fy:=HY1.out.frozen 0;have zy:=HY1.out.lt;simp at px py;clear hb1 HX0 HY0 HB0 HK1;cases x
 · have HE:Hid (PB=(1,0,[])):=by unfold Hid;rw[HR.out];rfl
   go_wp2_with fail;refine bodyPost_ret (v:=.tuple #[.agg #[.slice none 0 0],.int .i64 0,.int .i64 1]) (by simp[results,Tryz.results30,go_sem,py]) rfl ?_;exact⟨_,by rw[HE.out];rfl,by rw[HE.out];exact zO0 _ _,HB1.out.setCell (show w.heap.size≤w.heap.size+1 by omega) _⟩
 rw[Bool.true_and]at HR;go_wp2_with fail;refine(HK2.out _ HB1.out).mono ?_;rintro e w2 ⟨rfl,hb2⟩;have HB2:=zh (HB1.out.later hb2);have HX2:=zh (HX1.out.later hb2 HX1.out.lt);have HY2:=zh (HY1.out.later hb2 HY1.out.lt);clear hb2 HX1 HY1 HB1 HK2 px py fy zy;have px:=HX2.out.cell 0;have py:=HY2.out.cell 0;have fy:=HY2.out.frozen 0;have zy:=HY2.out.lt;simp at px py;cases y
 · have HE:Hid (PB=(1,0,[])):=by unfold Hid;rw[HR.out];rfl
   go_wp2_with fail;refine bodyPost_ret (v:=.tuple #[.agg #[.slice none 0 0],.int .i64 0,.int .i64 1]) (by simp[results,Tryz.results30,go_sem,py]) rfl ?_;exact⟨_,by rw[HE.out];rfl,by rw[HE.out];exact zO0 _ _,HB2.out.setCell (show w.heap.size≤w.heap.size+1 by omega) _⟩
 rw[if_pos rfl]at HR;obtain⟨hm0,hnn0⟩:=HNA.out (by first | trivial | exact HY.out);have hm:m≤60:=by rw[←HLL.out];exact hm0
 have HNN:=zh hnn0;clear hm0 hnn0;go_wp2_with fail;refine(HK3.out _ HB2.out).mono ?_;rintro e w3 ⟨v3,rfl,hn3,hb3⟩;have HB3:=zh (HB2.out.later hb3);have HY3:=zh (HY2.out.later hb3 HY2.out.lt);have HN3:=zh (hn3.W.base HB2.out.size);obtain⟨A3,cap3,rfl,_,_⟩:=hn3.reads;have hz3:=HY3.out.lt;have HBX:=zh (Below.new w3 (.cells #[.slice A3 fs.length cap3] 26));clear hb3 hn3 px py fy zy HX2 HY2 HB2 HK3 HNA;go_wp2_with fail;go_loopw [24] (fun i wr=>∃(k:Nat) (v:Value) (gs:List NodeD),k≤m∧i=.int .i64 k∧Hid (Blk wr w3.heap.size 26 #[v])∧Hid (Blk wr (w.heap.size+1) 26 #[.slice none 0 0])∧Hid (NodesW wr w.heap.size v gs)∧Hid (xA gs=true)∧Hid (uE gs)∧Hid (Below w.heap.size w wr)∧Hid (PB=yI gs (l.drop k) k)) (fun i _=>m-(intOf i).toNat);case atStart=>exact⟨0,_,fs,Nat.zero_le _,rfl,heap_alloc_new w3 _,HY3.out.alloc _,HN3.out.later HBX.out,HX.out,HC0.out,HB3.out.later HBX.out,by unfold Hid;rw[List.drop_zero];exact HR.out⟩
 case round =>
  obtain⟨k,v,gs,hk,rfl,HV,HYR,HNW,HTG,HCG,HBW,HPK⟩:=hrel;obtain⟨A4,cap4,rfl,hc4,_⟩:=HNW.out.reads;clear HBX HN3;by_cases hlt:k<m
  · obtain⟨bb,o,rfl,hbB,hc⟩:=(HLC.out.later HBW.out).2 (by omega);obtain⟨c0,c1,c2,c3,c4,k0,k1,k2,k3,k4,hr⟩:=hc k hlt;clear hc;have hl:k<l.length:=by rw[HLL.out];exact hlt
    obtain⟨hsd,hov⟩:=HAL.out _ (uC l k hl);have hce:=HCE.out _ (uC l k hl);have hnote:=HNN.out _ (uC l k hl);have hda:=uO l k hl;generalize l.getD k default=d at *;have HDA:Hid (PB=if (yD gs d).1=0 then yI (yD gs d).2 (l.drop (k+1)) (k+1) else ((yD gs d).1,k,[])):=by unfold Hid;rw[HPK.out,hda];rfl
    have HDT:Hid ((yD gs d).1=0→xA (yD gs d).2=true):=zBp HTG.out hnote;have HDC:Hid (uE (yD gs d).2):=zAI HCG.out hce;have HKA:=zh (fun W (hW:Below wr.heap.size wr W)=>zJb w3.heap.size w.heap.size (.slice A4 gs.length cap4) gs c0 c1 c2 c3 c4 d W (wA HTAB.out (HBW.out.later hW)) (HV.out.later hW HV.out.lt) (HNW.out.later hW) (Nat.le_trans HBW.out.size hW.size) HTG.out HCG.out (hr.later hW) hsd hnote);clear hda hsd hov hnote hce;generalize yD gs d=R at *;obtain⟨r1,r2⟩:=R;obtain⟨rfl,rfl,⟨S,m1,q1,rfl,_,_⟩,rfl,rfl⟩:=hr;go_wp2_with fail;refine(HKA.out _ (Below.new _ _)).mono ?_;rintro e w5 ⟨rfl,hp5⟩;have HP5:=zh (hp5.lift (Below.new _ _))
    have HB5:Hid (Below w.heap.size w w5):=Own.Chg.below HBW.out HP5.out.1 (fun g hg=>by
     rcases hg with rfl | hg
     · have:=HB3.out.size;omega
     · exact(HNW.out.lt _ hg).1) (Nat.le_refl _)
    have HY5:Hid (Blk w5 (w.heap.size+1) 26 #[.slice none 0 0]):=Own.Blk.chg HYR.out HP5.out.1 (fun hg=>by
     rcases hg with h | hg
     · omega
     · exact HNW.out.off HYR.out (by decide) hg)
    have py:=HY5.out.cell 0;have fy:=HY5.out.frozen 0;have zy:=HY5.out.lt;simp at py;clear hp5 k0 k1 k2 k3 k4;by_cases hr0:r1=0
    · have HE2:Hid (PB=yI r2 (l.drop (k+1)) (k+1)):=by unfold Hid;rw[HDA.out,if_pos hr0]
      have HT2:=zh (HDT.out hr0);obtain⟨v5,hv5,hn5⟩:=HP5.out.2 hr0;have HV5:=zh hv5;have HN5:=zh hn5;clear hv5 hn5;subst hr0;go_wp2_with fail;go_roundw;case rel=>exact⟨k+1,_,r2,by omega,by go_num,HV5.out,HY5.out,HN5.out,HT2.out,HDC.out,HB5.out,HE2.out⟩
      case measure=>simp[intOf];omega
    · have HE2:Hid (PB=(r1,k,[])):=by unfold Hid;rw[HDA.out,if_neg hr0]
      have hb0:(r1==(0:Int))=false:=by rw[beq_eq_false_iff_ne];exact hr0
      go_wp2_with fail;refine bodyPost_ret (v:=.tuple #[.agg #[.slice none 0 0],.int .i64 k,.int .i64 r1]) (by simp[results,Tryz.results30,go_sem,py]) rfl ?_;exact⟨_,by rw[HE2.out],by rw[HE2.out];exact zO0 _ _,HB5.out.setCell (show w.heap.size≤w.heap.size+1 by omega) _⟩
  · obtain rfl:k=m:=by omega
    have HE2:Hid (PB=(0,0,gs)):=by unfold Hid;rw[HPK.out,List.drop_of_length_le (by rw[HLL.out];omega)];rfl
    have pv:=HV.out.cell 0;have py:=HYR.out.cell 0;have fy:=HYR.out.frozen 0;have zy:=HYR.out.lt;simp at pv py;go_wp2_with fail;refine bodyPost_ret (v:=.tuple #[.agg #[.slice A4 _ cap4],.int .i64 0,.int .i64 0]) (by simp[results,Tryz.results30,go_sem,py];try first | exact rfl | exact⟨rfl,rfl⟩) rfl ?_;exact⟨_,by rw[HE2.out];rfl,by rw[HE2.out];exact HNW.out.setBlk HYR.out (by decide) (by decide),HBW.out.setCell (show w.heap.size≤w.heap.size+1 by omega) _⟩
end Go.Proofs.YtgmaamnofhmecaaGreatDoor
namespace Go.Proofs.YtgmaamnofhmecaaGreatDoor
open Go.RowKit
set_option linter.unusedVariables false
set_option maxRecDepth 100000 in
theorem zEo (A:Option Addr) (n c:Nat) (L:Option Addr) (m q:Nat) (fs:List NodeD) (l:List BatD) (w:World) (htab:uG w) (hN:Nodes w w.heap.size A n fs) (hs:yC fs) (hcl:uE fs) (hL:Bats w w.heap.size L m l) (hok:zID l) (hce:∀b∈l,zAY b.evs) :
 Calls Tryz.prog 23 #[.agg #[.slice A n c],.slice L m q] w (zGS (tafB fs l) w):=by
 have HK1:=zh (fun W (hW:Below w.heap.size w W)=>zAf A n c fs W (hN.later hW) (wA htab hW) hs);have HK2:=zh (fun W (hW:Below w.heap.size w W)=>zEn L m q l W (wA htab hW) (hL.later hW) hok);have HK3:=zh (fun W (hW:Below w.heap.size w W)=>zBJ A n c fs W (hN.later hW) hs);have HTAB:=zh htab;have HLC:=zh hL;have HLL:=zh hL.1;have HAL:=zh hok.2;have HCE:=zh hce;have HC0:=zh hcl;have HNA:=zh (fun h=>zAJ (l:=l) h);have HR:Hid (tafB fs l=if (xA fs&&batsB l)=true then vM fs l 0 else (1,0,[])):=rfl;clear htab hN hs hcl hL hok hce;generalize tafB fs l=PB at *;generalize hx:xA fs=x at *;generalize hy:batsB l=y at *;have HX:=zh hx;have HY:=zh hy;clear hx hy;obtain⟨WB,hWB⟩:∃WB,WB=(w.alloc (.cells #[.slice A n c] 26)).alloc (.cells #[.slice none 0 0] 26):=⟨_,rfl⟩;have HB0:Hid (Below w.heap.size w WB):=by subst hWB;exact(Below.new _ _).later (Below.new _ _)
 have HX0:Hid (Blk WB w.heap.size 26 #[.slice A n c]):=by subst hWB;exact uD _ _ _
 have HY0:Hid (Blk WB (w.heap.size+1) 26 #[.slice none 0 0]):=by subst hWB;exact xD _ _ _
 go_enter Tryz.func23,Tryz.ntmps23;go_wp2_with fail;rw[←hWB];clear hWB;refine(HK1.out _ HB0.out).mono ?_;rintro e w1 ⟨rfl,hb1⟩;have HB1:=zh (HB0.out.later hb1);have HX1:=zh (HX0.out.later hb1 HX0.out.lt);have HY1:=zh (HY0.out.later hb1 HY0.out.lt);have px:=HX1.out.cell 0;have py:=HY1.out.cell 0;have fy:=HY1.out.frozen 0;have zy:=HY1.out.lt;simp at px py;clear hb1 HX0 HY0 HB0 HK1;cases x
 · have HE:Hid (PB=(1,0,[])):=by unfold Hid;rw[HR.out];rfl
   go_wp2_with fail;refine bodyPost_ret (v:=.tuple #[.agg #[.slice none 0 0],.int .i64 0,.int .i64 1]) (by simp[results,Tryz.results23,go_sem,py]) rfl ?_;exact⟨_,by rw[HE.out];rfl,by rw[HE.out];exact zO0 _ _,HB1.out.setCell (show w.heap.size≤w.heap.size+1 by omega) _⟩
 rw[Bool.true_and]at HR;go_wp2_with fail;refine(HK2.out _ HB1.out).mono ?_;rintro e w2 ⟨rfl,hb2⟩;have HB2:=zh (HB1.out.later hb2);have HX2:=zh (HX1.out.later hb2 HX1.out.lt);have HY2:=zh (HY1.out.later hb2 HY1.out.lt);clear hb2 HX1 HY1 HB1 HK2 px py fy zy;have px:=HX2.out.cell 0;have py:=HY2.out.cell 0;have fy:=HY2.out.frozen 0;have zy:=HY2.out.lt;simp at px py;cases y
 · have HE:Hid (PB=(1,0,[])):=by unfold Hid;rw[HR.out];rfl
   go_wp2_with fail;refine bodyPost_ret (v:=.tuple #[.agg #[.slice none 0 0],.int .i64 0,.int .i64 1]) (by simp[results,Tryz.results23,go_sem,py]) rfl ?_;exact⟨_,by rw[HE.out];rfl,by rw[HE.out];exact zO0 _ _,HB2.out.setCell (show w.heap.size≤w.heap.size+1 by omega) _⟩
 rw[if_pos rfl]at HR;obtain⟨hm0,hnn0⟩:=HNA.out (by first | trivial | exact HY.out);have hm:m≤400:=by rw[←HLL.out];exact hm0
 have HNN:=zh hnn0;clear hm0 hnn0;go_wp2_with fail;refine(HK3.out _ HB2.out).mono ?_;rintro e w3 ⟨v3,rfl,hn3,hb3⟩;have HB3:=zh (HB2.out.later hb3);have HY3:=zh (HY2.out.later hb3 HY2.out.lt);have HN3:=zh (hn3.W.base HB2.out.size);obtain⟨A3,cap3,rfl,_,_⟩:=hn3.reads;have hz3:=HY3.out.lt;have HBX:=zh (Below.new w3 (.cells #[.slice A3 fs.length cap3] 26));clear hb3 hn3 px py fy zy HX2 HY2 HB2 HK3 HNA;go_wp2_with fail;go_loopw [26] (fun i wr=>∃(k:Nat) (v:Value) (gs:List NodeD),k≤m∧i=.int .i64 k∧Hid (Blk wr w3.heap.size 26 #[v])∧Hid (Blk wr (w.heap.size+1) 26 #[.slice none 0 0])∧Hid (NodesW wr w.heap.size v gs)∧Hid (xA gs=true)∧Hid (uE gs)∧Hid (Below w.heap.size w wr)∧Hid (PB=vM gs (l.drop k) k)) (fun i _=>m-(intOf i).toNat);case atStart=>exact⟨0,_,fs,Nat.zero_le _,rfl,heap_alloc_new w3 _,HY3.out.alloc _,HN3.out.later HBX.out,HX.out,HC0.out,HB3.out.later HBX.out,by unfold Hid;rw[List.drop_zero];exact HR.out⟩
 case round =>
  obtain⟨k,v,gs,hk,rfl,HV,HYR,HNW,HTG,HCG,HBW,HPK⟩:=hrel;obtain⟨A4,cap4,rfl,hc4,hn4⟩:=HNW.out.reads;clear HBX HN3;by_cases hlt:k<m
  · obtain⟨bb,o,rfl,hbB,hc⟩:=(HLC.out.later HBW.out).2 (by omega);obtain⟨c0,c1,k0,k1,hr⟩:=hc k hlt;clear hc;have hl:k<l.length:=by rw[HLL.out];exact hlt
    have hsd:=HAL.out _ (uC l k hl);have hce:=HCE.out _ (uC l k hl);have hnote:=(HNN.out _ (uC l k hl)).2;have hda:=uO l k hl;generalize l.getD k default=d at *;have hrep:replB gs d.evs=yI gs d.evs 0:=by unfold replB;rw[HTG.out,hnote];rfl
    have HDA:Hid (PB=if (yI gs d.evs 0).1=0 then vM (yI gs d.evs 0).2.2 (l.drop (k+1)) (k+1) else ((yI gs d.evs 0).1,k,[])):=by unfold Hid;rw[HPK.out,hda];rfl
    have HDT:Hid ((yI gs d.evs 0).1=0→xA (yI gs d.evs 0).2.2=true):=zBx d.evs gs 0 HTG.out (uR hnote).2;have HDC:Hid (uE (yI gs d.evs 0).2.2):=zCg d.evs gs 0 HCG.out hce;obtain⟨rfl,S,m1,q1,rfl,hev,hmq1⟩:=hr;have HKA:=zh (fun W (hW:Below wr.heap.size wr W)=>zHU A4 gs.length cap4 S m1 q1 gs d.evs W (wA HTAB.out (HBW.out.later hW)) (hn4.later hW) (zC0 HTG.out) HCG.out (hev.later hW) hsd hce);rw[hrep]at HKA;clear hda hsd hnote hce hrep hev;generalize yI gs d.evs 0=R at *;obtain⟨r1,r3,r2⟩:=R;have pv:=HV.out.cell 0;have zv:=HV.out.lt;simp at pv;go_wp2_with fail;refine(HKA.out _ (Below.new _ _)).mono ?_;rintro e w5 ⟨v5,rfl,hn5,hb5⟩;have HBs:=zh ((Below.new wr _).later hb5);obtain⟨A5,n5,cap5,rfl⟩:∃A5 n5 cap5,v5=.slice A5 n5 cap5:=by obtain⟨A,cap,e,_⟩:=hn5.reads;exact⟨_,_,_,e⟩
    have HA:=zh (Below.new w5 (.cells #[.slice A5 n5 cap5] 26));have HN5:=zh (hn5.base (Nat.le_trans HBW.out.size (by simp)));have HV5:=zh (HV.out.later HBs.out HV.out.lt);have HY5:=zh (HYR.out.later HBs.out HYR.out.lt);have HB5:=zh (HBW.out.later HBs.out);have H8:Hid (Blk (w5.alloc (.cells #[.slice A5 n5 cap5] 26)) w5.heap.size 26 #[.slice A5 n5 cap5]):=heap_alloc_new _ _;clear hn5 hb5 k0 k1 pv zv;have pv:=(HV.out.later HBs.out HV.out.lt).cell 0;have zv:=(HV.out.later HBs.out HV.out.lt).lt;have fv:=(HV.out.later HBs.out HV.out.lt).frozen 0;have py:=(HYR.out.later HBs.out HYR.out.lt).cell 0;have zy:=(HYR.out.later HBs.out HYR.out.lt).lt;have fy:=(HYR.out.later HBs.out HYR.out.lt).frozen 0;simp at pv py;by_cases hr0:r1=0
    · have HE2:Hid (PB=vM r2 (l.drop (k+1)) (k+1)):=by unfold Hid;rw[HDA.out,if_pos hr0]
      have HT2:=zh (HDT.out hr0);subst hr0;go_wp2_with fail;go_roundw;case rel=>exact⟨k+1,_,r2,by omega,by go_num,(HV5.out.set_ 0 _).alloc _,(HY5.out.far (show w.heap.size+1≠w3.heap.size by omega) _).alloc _,(HN5.out.setBlk HV5.out (by decide) (by decide)).later (Below.new _ _),HT2.out,HDC.out,(HB5.out.setCell (show w.heap.size≤w3.heap.size by omega) _).later (Below.new _ _),HE2.out⟩
      case measure=>simp[intOf];omega
    · have HE2:Hid (PB=(r1,k,[])):=by unfold Hid;rw[HDA.out,if_neg hr0]
      have hb0:(r1==(0:Int))=false:=by rw[beq_eq_false_iff_ne];exact hr0
      go_wp2_with fail;refine bodyPost_ret (v:=.tuple #[.agg #[.slice none 0 0],.int .i64 k,.int .i64 r1]) (by simp[results,Tryz.results23,go_sem,py,zy]) rfl ?_;exact⟨_,by rw[HE2.out],by rw[HE2.out];exact zO0 _ _,(HB5.out.setCell (show w.heap.size≤w.heap.size+1 by omega) _).later (Below.new _ _)⟩
  · obtain rfl:k=m:=by omega
    have HE2:Hid (PB=(0,0,gs)):=by unfold Hid;rw[HPK.out,List.drop_of_length_le (by rw[HLL.out];omega)];rfl
    have pv:=HV.out.cell 0;have py:=HYR.out.cell 0;have fy:=HYR.out.frozen 0;have zy:=HYR.out.lt;simp at pv py;go_wp2_with fail;refine bodyPost_ret (v:=.tuple #[.agg #[.slice A4 _ cap4],.int .i64 0,.int .i64 0]) (by simp[results,Tryz.results23,go_sem,py];try first | exact rfl | exact⟨rfl,rfl⟩) rfl ?_;exact⟨_,by rw[HE2.out];rfl,by rw[HE2.out];exact HNW.out.setBlk HYR.out (by decide) (by decide),HBW.out.setCell (show w.heap.size≤w.heap.size+1 by omega) _⟩
end Go.Proofs.YtgmaamnofhmecaaGreatDoor
namespace Go.Proofs.YtgmaamnofhmecaaGreatDoor
open Go.RowKit
set_option linter.unusedVariables false
set_option maxRecDepth 100000 in
theorem zBP (A:Option Addr) (n c:Nat) (L:Option Addr) (m q:Nat) (A':Option Addr) (n' c':Nat) (fs:List NodeD) (l:List BatD) (gs:List NodeD) (w:World) (htab:uG w) (hN:Nodes w w.heap.size A n fs) (hs:yC fs) (hcl:uE fs) (hL:Bats w w.heap.size L m l) (hok:zID l) (hce:∀b∈l,zAY b.evs) (hN':Nodes w w.heap.size A' n' gs) (hs':yC gs) :
 Calls Tryz.prog 21 #[.agg #[.slice A n c],.slice L m q,.agg #[.slice A' n' c']] w fun e w'=>e=.returned (.bool (serB fs l gs))∧Below w.heap.size w w':=by
 have HK1:=zh (fun W (hW:Below w.heap.size w W)=>zEo A n c L m q fs l W (wA htab hW) (hN.later hW) hs hcl (hL.later hW) hok hce);have HK3:=zh (fun W (hW:Below w.heap.size w W)=>zAf A' n' c' gs W (hN'.later hW) (wA htab hW) hs')
 have hsm:(tafB fs l).1=0→yC (tafB fs l).2.2:=fun h0=>by
  unfold tafB at h0 ⊢;split at h0
  · next hc=>rw[if_pos hc];rw[Bool.and_eq_true]at hc;exact zC0 (zDT l fs 0 hc.1 (fun b hbm=>((zAJ hc.2).2 b hbm).2) h0)
  · cases h0
 have HK5:=zh (fun A1 n1 c1 (h0:(tafB fs l).1=0) W (hW:Below w.heap.size w W) (h1:Nodes W W.heap.size A1 n1 (tafB fs l).2.2)=>zFD A1 A' n1 c1 n' c' (tafB fs l).2.2 gs W h1 (hN'.later hW) (hsm h0) hs');have HR:Hid (serB fs l gs=(decide ((tafB fs l).1=0)&&(xA gs&&decide ((tafB fs l).2.2=gs)))):=(zKe fs l gs).symm;clear htab hN hs hcl hL hok hce hN' hs' hsm;generalize serB fs l gs=R at *;generalize xA gs=z at *;generalize tafB fs l=P at *;obtain⟨r1,r3,r2⟩:=P;generalize hsm:decide (r2=gs)=sm at *;clear hsm;obtain⟨WB,hWB⟩:∃WB,WB=(w.alloc (.cells #[.slice A n c] 26)).alloc (.cells #[.slice A' n' c'] 26):=⟨_,rfl⟩;have HB0:Hid (Below w.heap.size w WB):=by subst hWB;exact(Below.new _ _).later (Below.new _ _)
 have HY0:Hid (Blk WB (w.heap.size+1) 26 #[.slice A' n' c']):=by subst hWB;exact xD _ _ _
 go_enter Tryz.func21,Tryz.ntmps21;go_wp2_with fail;rw[←hWB];clear hWB;refine(HK1.out _ HB0.out).mono ?_;rintro e w4 ⟨v4,rfl,hn4,hb4⟩;obtain⟨A4,cap4,rfl,_,hNN4⟩:=hn4.reads;have HB4:=zh (HB0.out.later hb4);have HN4:=zh hNN4;have HY4:=zh (HY0.out.later hb4 HY0.out.lt);have p1:=HY4.out.cell 0;have pz:=HY4.out.lt;simp at p1;clear hb4 hn4 hNN4 HY0;by_cases h0:r1=0
 · have HK5':=zh (fun W (hW:Below w.heap.size w W) (h1:Nodes W W.heap.size A4 r2.length r2)=>HK5.out A4 r2.length cap4 h0 W hW h1);have HE:Hid (R=(z&&sm)):=by unfold Hid;rw[HR.out,decide_eq_true h0,Bool.true_and]
   subst h0;go_wp2_with fail;refine(HK3.out _ (HB4.out.later (Below.new _ _))).mono ?_;rintro e w5 ⟨rfl,hb5⟩;have HB5:=zh ((Below.new w4 (.cells #[.slice A4 r2.length cap4] 26)).later hb5);have HX5:Hid (Blk w5 w4.heap.size 26 #[.slice A4 r2.length cap4]):=Blk.later (heap_alloc_new w4 _) hb5 (by simp);have x5:=HX5.out.cell 0;have y5:=(HY4.out.later HB5.out HY4.out.lt).cell 0;simp at x5 y5;clear hb5 p1;cases z
   · go_wp2_with fail;go_ret;exact⟨zA0 (by rw[HE.out];rfl),HB4.out.later HB5.out⟩
   · rw[Bool.true_and]at HE;go_wp2_with fail;refine(HK5'.out _ (HB4.out.later HB5.out) (HN4.out.later HB5.out)).mono ?_;rintro e w6 ⟨rfl,hb6⟩;have HB6:=zh (HB5.out.later hb6);clear hb6;go_wp2_with fail;go_ret;exact⟨zA0 HE.out.symm,HB4.out.later HB6.out⟩
 · have HE:Hid (R=false):=by unfold Hid;rw[HR.out,decide_eq_false h0];rfl
   have hb0:(r1==(0:Int))=false:=beq_eq_false_iff_ne.2 h0;clear h0;go_wp2_with fail;go_ret;exact⟨zA0 HE.out.symm,HB4.out.later (Below.new _ _)⟩
end Go.Proofs.YtgmaamnofhmecaaGreatDoor
namespace Go.Proofs.YtgmaamnofhmecaaGreatDoor
open Go.RowKit
set_option linter.unusedVariables false
theorem zHH (A:Option Addr) (n c:Nat) (A':Option Addr) (n' c':Nat) (w:World) (hn:n≤9223372036854775807) (hn':n'≤9223372036854775807) :
 Calls Tryz.prog 10 #[.slice A n c,.slice A' n' c'] w fun e w'=>e=.returned (.bool (decide (1048576<n)||decide (1048576<n')))∧w=w':=by
 by_cases h:1048576<n
 · go_enter Tryz.func10,Tryz.ntmps10;go_wp2_with fail;go_ret;exact⟨zA0 (by first | (simp[h];done) | (simp[h];omega)),rfl⟩
 · by_cases h':1048576<n'
   all_goals
    go_enter Tryz.func10,Tryz.ntmps10;go_wp2_with fail;go_ret;exact⟨zA0 (by first | (simp[h,h'];done) | (simp[h,h'];omega)),rfl⟩
theorem zGM (A:Option Addr) (n c i:Nat) (m:Int) (w:World) (h:BytesR w w.heap.size A n) (hn:n≤9223372036854775807) (hi:i≤1000) (hm:m≤4294967296) :
 Calls Tryz.prog 25 #[.slice A n c,.int .i64 i,.int .i64 m] w fun e w'=>∃x:Nat,e=.returned (.int .i64 x)∧((x:Int)<m∨x=0)∧Below w.heap.size w w':=by
 have H:=zh h;clear h;go_enter Tryz.func25,Tryz.ntmps25;by_cases h1:m≤1
 · go_wp2_with fail;go_ret;exact⟨0,rfl,.inr rfl,Below.refl _ _⟩
 · have hn0:¬m=0:=by omega
   by_cases hlt:i<n
   · obtain⟨b,o,rfl,hb,hc⟩:=H.out (by omega);obtain⟨x,hx,hx2⟩:=hc i hlt;clear hc;have hlt':(i:Int)<(n:Int):=by omega
     go_wp2_with fail;obtain⟨z,hz1,hz2⟩:=zBH (x:Int) m (by omega);rw[hz1];go_ret;exact⟨z,rfl,.inl hz2,Below.refl _ _⟩
   · have hlt':¬(i:Int)<(n:Int):=by omega
     go_wp2_with fail;obtain⟨z,hz1,hz2⟩:=zBH ((i:Int)*29+5) m (by omega);rw[hz1];go_ret;exact⟨z,rfl,.inl hz2,Below.refl _ _⟩
end Go.Proofs.YtgmaamnofhmecaaGreatDoor
