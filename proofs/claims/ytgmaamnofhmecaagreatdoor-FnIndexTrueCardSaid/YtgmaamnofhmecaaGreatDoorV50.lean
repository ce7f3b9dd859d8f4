import Derived.Test.YtgmaamnofhmecaaGreatDoorV33
import Derived.Test.YtgmaamnofhmecaaGreatDoorV35
import Derived.Test.YtgmaamnofhmecaaGreatDoorV39
import Derived.Test.YtgmaamnofhmecaaGreatDoorV37
import Derived.Test.YtgmaamnofhmecaaGreatDoorV42
import Derived.Test.YtgmaamnofhmecaaGreatDoorV28
import Derived.Test.YtgmaamnofhmecaaGreatDoorV34
import Derived.Test.YtgmaamnofhmecaaGreatDoorV49
import Derived.Test.YtgmaamnofhmecaaGreatDoorV21
open Go.Lib renaming hid → zh
namespace Go.Proofs.YtgmaamnofhmecaaGreatDoor
open Go.RowKit
set_option linter.unusedVariables false
theorem zAc {fs:List NodeD} {b:TableD} (h:xH fs b=true):wB fs:=by
 unfold xH at h;simp only[Bool.and_eq_true]at h;exact xM h.1.1
theorem zJp {fs:List NodeD} {b:TableD} {r:List ByteArray}:(∀d∈(zAH fs b r).2,d.small)∧(zAH fs b r).2.length≤1048576:=by
 unfold zAH;split
 · next hc =>
   simp only[Bool.and_eq_true]at hc;split
   · next ha =>
     have hr:=zCV ha;refine⟨fun d hd=>?_,?_⟩
     · rcases List.mem_cons.1 hd with h | h
       · rw[h];exact uU (zFR hc.2.1 hc.2.2)
       · exact uU (zIL hc.2.1 hr hc.2.2 d h).1
     · have h1:=uY (zCj b.glob b.cols (uF b.cols (yA b.glob fs) (r.getD 0 ByteArray.empty)).2 r) (zDX b.glob b.cols _ r) b.idx;have h2:=vA hc.2.1;show(xT b.glob r::zQ0 b _ r).length≤_;unfold zQ0;rw[List.length_cons];omega
   · exact⟨fun d hd=>by simp at hd,by simp⟩
 · exact⟨fun d hd=>by simp at hd,by simp⟩
theorem zJz {fs:List NodeD} {b:TableD}:(∀d∈(vX fs b).2,d.small)∧(vX fs b).2.length≤1048576:=by
 by_cases h:(vX fs b).1=0
 · obtain⟨ht,hb,h0,hl⟩:=zFn h;obtain⟨g1,g2⟩:=zAJ h0;rw[hl];refine⟨fun d hd=>?_,?_⟩
   · rcases List.mem_cons.1 hd with h | h
     · rw[h];exact uU (zGY hb)
     · exact uU (zKy hb g2 d h).1
   · have h2:=vA hb;have h1:=zAA (yG 1 b) 5 (fun q=>by have:=zCB b q;omega) (uB b.cols (yA b.glob fs)).2;show(zAx b.glob::(uB b.cols (yA b.glob fs)).2.flatMap (yG 1 b)).length≤_;rw[List.length_cons];omega
 · unfold vX at h ⊢;split at h
   · exact absurd rfl h
   · next hn=>rw[if_neg hn];exact⟨fun d hd=>by simp at hd,by simp⟩
set_option maxRecDepth 100000 in
set_option maxHeartbeats 40000000 in
theorem zJI (A:Option Addr) (n c:Nat) (w:World) (htab:vV w) (h:BytesR w w.heap.size A n) (hn:n≤9223372036854775807) :
 Calls Tryz.prog 3 #[.slice A n c] w fun e w'=>e=.returned (.bool true)∧Below w.heap.size w w':=by
 have HK1:=zh (zJS A n c w hn);by_cases hbig:1048576<n
 · rw[decide_eq_true hbig]at HK1;clear h htab;go_enter Tryz.func3,Tryz.ntmps3;go_wp2_with fail;refine HK1.out.mono ?_;rintro e w1 ⟨rfl,rfl⟩;go_wp2_with fail;go_ret;exact⟨rfl,Below.refl _ _⟩
 rw[decide_eq_false hbig]at HK1;have HK2:=zh (zCO A n c w h (by omega));have HTB:=zh htab;clear h htab;go_enter Tryz.func3,Tryz.ntmps3;go_wp2_with fail;refine HK1.out.mono ?_;rintro e w1 ⟨rfl,rfl⟩;go_wp2_with fail;refine HK2.out.mono ?_;rintro e w1 ⟨v,fs,c0,c1,c2,c3,d,rv,rs,rfl,⟨hN,hT,hR,hb1⟩,htr,htn,hpos,hlen,hall⟩;obtain⟨A1,cap1,rfl,hcap1,hN⟩:=hN.reads;obtain⟨A4,cap4,rfl,hcap4,hRs⟩:=Own.SubO.strs hR;have hTR:=hT.reads;obtain⟨e0,e1,⟨A2,n2,p2,e2,s2,k2⟩,⟨A3,n3,p3,e3,s3,k3⟩⟩:=hTR;subst e0 e1 e2 e3;have hds:=zDs htn (by decide);have hsm:wL rs:=⟨by omega,fun s hs=>by have:=hall s hs;omega⟩;have hts:=xM htr;obtain⟨WX,hWX⟩:∃WX,WX=((w1.alloc (.cells #[.slice A1 fs.length cap1] 26)).alloc (.cells #[.string d.name,.string d.glob,.slice A2 n2 p2,.slice A3 n3 p3] 29)).alloc (.cells #[.slice A4 rs.length cap4] 31):=⟨_,rfl⟩;have HBX:Hid (Below w1.heap.size w1 WX):=by subst hWX;exact zL0 w1 _ _ _
 have HX0:Hid (Blk WX w1.heap.size 26 #[.slice A1 fs.length cap1]):=by subst hWX;exact wN _ _ _ _
 have HX1:Hid (Blk WX (w1.heap.size+1) 29 #[.string d.name,.string d.glob,.slice A2 n2 p2,.slice A3 n3 p3]):=by subst hWX;exact wK _ _ _ _
 have HX2:Hid (Blk WX (w1.heap.size+1+1) 31 #[.slice A4 rs.length cap4]):=by subst hWX;exact wJ _ _ _ _
 have HS1:Hid (∀W',Below WX.heap.size WX W'→(W'.cell? ⟨w1.heap.size,0,none⟩=some (.slice A1 fs.length cap1)∧W'.cell? ⟨w1.heap.size+1,0,none⟩=some (.string d.name)∧W'.cell? ⟨w1.heap.size+1,1,none⟩=some (.string d.glob)∧W'.cell? ⟨w1.heap.size+1,2,none⟩=some (.slice A2 n2 p2)∧W'.cell? ⟨w1.heap.size+1,3,none⟩=some (.slice A3 n3 p3)∧W'.cell? ⟨w1.heap.size+1+1,0,none⟩=some (.slice A4 rs.length cap4))):=fun W' hW=>⟨(HX0.out.later hW HX0.out.lt).at 0 rfl,(HX1.out.later hW HX1.out.lt).at 0 rfl,(HX1.out.later hW HX1.out.lt).at 1 rfl,(HX1.out.later hW HX1.out.lt).at 2 rfl,(HX1.out.later hW HX1.out.lt).at 3 rfl,(HX2.out.later hW HX2.out.lt).at 0 rfl⟩;have HNX:Hid (∀W,Below WX.heap.size WX W→Nodes W W.heap.size A1 fs.length fs):=fun W hW=>hN.later (HBX.out.later hW);have HTX:Hid (∀W,Below WX.heap.size WX W→TableR W W.heap.size (.string d.name) (.string d.glob) (.slice A2 n2 p2) (.slice A3 n3 p3) d):=fun W hW=>hT.reads.later (HBX.out.later hW);have HRX:Hid (∀W,Below WX.heap.size WX W→RowR W W.heap.size (.slice A4 rs.length cap4) rs):=fun W hW=>⟨A4,_,cap4,rfl,hRs.later (HBX.out.later hW),hcap4⟩;have HBW:Hid (Below w.heap.size w WX):=hb1.later HBX.out;have HTT:Hid (∀W,Below WX.heap.size WX W→vV W):=fun W hW=>zH0 HTB.out (HBW.out.later hW);have HKI:=zh (fun W (hW:Below WX.heap.size WX W)=>zFf A1 fs.length cap1 _ _ _ _ _ fs d rs W (HTT.out W hW) (HNX.out W hW) (HTX.out W hW) (HRX.out W hW) hts hds hsm);have HKS:=zh (fun W (hW:Below WX.heap.size WX W)=>zCp A1 fs.length cap1 _ _ _ _ _ fs d rs W (HNX.out W hW) (HTX.out W hW) (HRX.out W hW) hts hds hsm);have HKT:=zh (fun W (hW:Below WX.heap.size WX W)=>wI A1 fs.length cap1 _ _ _ _ fs d W (HNX.out W hW) (HTX.out W hW) hts hds);have HKRI:=zh (fun W (hW:Below WX.heap.size WX W)=>zDn A1 fs.length cap1 _ _ _ _ fs d W (HTT.out W hW) (HNX.out W hW) (HTX.out W hW) hts hds);have HKRS:=zh (fun W (hW:Below WX.heap.size WX W)=>zBi A1 fs.length cap1 _ _ _ _ fs d W (HNX.out W hW) (HTX.out W hW) hts hds);have HIS:=zh (zJp (fs:=fs) (b:=d) (r:=rs));have HGS:=zh (zJz (fs:=fs) (b:=d));have HUP:Hid (xH fs d=true→(zAH fs d rs).1=0→(uA fs (zAH fs d rs).2).1=0→xH (uA fs (zAH fs d rs).2).2 d=true):=fun h1 h2 h3=>zKh h1 h2 h3;have HREB:Hid ((vX fs d).1=0→((uA fs (vX fs d).2).1=0∨(uA fs (vX fs d).2).1=4)∧((uA fs (vX fs d).2).1=0→xH (uA fs (vX fs d).2).2 d=true)):=fun h=>zKx h;clear hN hT hRs hR hb1 hcap4 HTB htr htn hpos hlen hall s2 s3;generalize zAH fs d rs=IB at *;obtain⟨icode,L⟩:=IB;generalize vX fs d=GB at *;obtain⟨gcode,G⟩:=GB;dsimp only at HUP HREB HGS HIS;generalize xH fs d=xt at *;obtain⟨x0,x1,x2,x3,x4,x5⟩:=HS1.out _ (Below.refl _ _);go_wp2_with fail;rw[←hWX];clear hWX;refine(HKI.out _ (Below.refl _ _)).mono ?_;rintro e w2 ⟨lv,rfl,hl2,hb2⟩;obtain⟨A5,cap5,rfl,_,hC5⟩:=hl2.reads;have HB2:=zh hb2;have HC2:Hid (∀W,Below w2.heap.size w2 W→Chgs W W.heap.size A5 L.length L):=fun W hW=>hC5.later hW;clear hb2 hl2 hC5 x0 x1 x2 x3 x4 x5 HKI;obtain⟨x0,x1,x2,x3,x4,x5⟩:=HS1.out _ HB2.out;go_wp2_with fail;refine(HKS.out _ HB2.out).mono ?_;rintro e w3 ⟨wv,rfl,hl3,hb3⟩;obtain⟨A6,cap6,rfl,_,hC6⟩:=hl3.reads;have HB23:=zh hb3;have HB3:=zh (HB2.out.later hb3);have HC3:Hid (∀W,Below w3.heap.size w3 W→Chgs W W.heap.size A6 L.length L):=fun W hW=>hC6.later hW;clear hb3 hl3 hC6 x0 x1 x2 x3 x4 x5 HKS;obtain⟨x0,x1,x2,x3,x4,x5⟩:=HS1.out _ HB3.out;have HKC:=zh (zEK A5 A6 L.length cap5 cap6 L w3 (HC2.out _ HB23.out) (HC3.out _ (Below.refl _ _)) HIS.out.2 HIS.out.1);have hneq:((icode != icode):Bool)=false:=by simp
 go_wp2_with fail;refine HKC.out.mono ?_;rintro e w4 ⟨rfl,hb4⟩;have HB4:=zh (HB3.out.later hb4);have HB24:=zh (HB23.out.later hb4);clear hb4 x0 x1 x2 x3 x4 x5 HKC HC3 HB23;by_cases hi0:icode=0
 case neg =>
  have hb0:(icode==(0:Int))=false:=beq_eq_false_iff_ne.2 hi0;obtain⟨x0,x1,x2,x3,x4,x5⟩:=HS1.out _ HB4.out;go_wp2_with fail;refine(HKRI.out _ HB4.out).mono ?_;rintro e wa ⟨av,rfl,hla,hba⟩;obtain⟨Aa,capa,rfl,_,hCa⟩:=hla.reads;have HBa:=zh (HB4.out.later hba);have HCa:Hid (∀W,Below wa.heap.size wa W→Chgs W W.heap.size Aa G.length G):=fun W hW=>hCa.later hW;clear hba hla hCa x0 x1 x2 x3 x4 x5;obtain⟨x0,x1,x2,x3,x4,x5⟩:=HS1.out _ HBa.out;go_wp2_with fail;refine(HKRS.out _ HBa.out).mono ?_;rintro e wb ⟨bv,rfl,hlb,hbb⟩;have HBb:=zh (HBa.out.later hbb);have HBab:=zh hbb;clear hlb hbb x0 x1 x2 x3 x4 x5;obtain⟨x0,x1,x2,x3,x4,x5⟩:=HS1.out _ HBb.out;have hng:((gcode != gcode):Bool)=false:=by simp
  by_cases hg0:gcode=0;case neg=>have hb0:(gcode==(0:Int))=false:=beq_eq_false_iff_ne.2 hg0;go_wp2_with fail;go_ret;exact⟨rfl,HBW.out.later HBb.out⟩
  have HRT:=zh (HREB.out hg0);subst hg0;have HKDo:=zh (vN A1 fs.length cap1 Aa G.length capa fs G wb (HNX.out _ HBb.out) hts (HCa.out _ HBab.out) HGS.out.2 HGS.out.1);generalize uA fs G=DG at *;obtain⟨four,YS⟩:=DG;dsimp only at HRT;go_wp2_with fail;refine HKDo.out.mono ?_;rintro e wc ⟨yv,rfl,hnc,hbc⟩;obtain⟨Ac,capc,rfl,_,hNc⟩:=hnc.reads;have HBc:=zh (HBb.out.later hbc);clear hbc hnc HKDo x0 x1 x2 x3 x4 x5;obtain⟨WY,hWY⟩:∃WY,WY=wc.alloc (.cells #[.slice Ac YS.length capc] 26):=⟨_,rfl⟩;have HQY:Hid (Blk WY wc.heap.size 26 #[.slice Ac YS.length capc]):=by subst hWY;exact heap_alloc_new _ _
  have HBY:Hid (Below WX.heap.size WX WY):=by subst hWY;exact HBc.out.later (Below.new _ _)
  have HNY:Hid (∀W,Below WY.heap.size WY W→Nodes W W.heap.size Ac YS.length YS):=fun W hW=>by
   have h1:Nodes WY WY.heap.size Ac YS.length YS:=by subst hWY;exact hNc.later (Below.new _ _)
   exact h1.later hW
  clear hNc;by_cases hf0:four=0
  case neg =>
   have h4:four=4:=by
    rcases HRT.out.1 with h | h
    · exact absurd h hf0
    · exact h
   subst h4;go_wp2_with fail;go_ret;exact⟨zA0 (by first | rfl | simp),(HBW.out.later HBc.out).later (Below.new _ _)⟩
  have hyt:=HRT.out.2 hf0;subst hf0;have hyts:=zAc hyt;have HKY1:=zh (fun W (hW:Below WY.heap.size WY W)=>wI Ac YS.length capc _ _ _ _ YS d W (HNY.out W hW) (HTX.out W (HBY.out.later hW)) hyts hds);have HKY2:=zh (fun W (hW:Below WY.heap.size WY W)=>zP0 Ac YS.length capc _ _ _ _ YS d W (HTT.out W (HBY.out.later hW)) (HNY.out W hW) (HTX.out W (HBY.out.later hW)) hyts hds hyt);rw[hyt]at HKY1;obtain⟨x0,x1,x2,x3,x4,x5⟩:=HS1.out _ HBc.out;have hz2:w1.heap.size+1+1<wc.heap.size:=Nat.lt_of_lt_of_le HX2.out.lt HBc.out.size;have hz1:w1.heap.size+1<wc.heap.size:=by omega
  have hz0:w1.heap.size<wc.heap.size:=by omega
  go_wp2_with fail;rw[←hWY];clear hWY hz0 hz1 hz2;refine(HKY1.out _ (Below.refl _ _)).mono ?_;rintro e wd ⟨rfl,hbd⟩;have HBd:=zh hbd;have qd:=(HQY.out.later hbd HQY.out.lt).cell 0;simp at qd;clear hbd x0 x1 x2 x3 x4 x5;obtain⟨x0,x1,x2,x3,x4,x5⟩:=HS1.out _ (HBY.out.later HBd.out);go_wp2_with fail;refine(HKY2.out _ HBd.out).mono ?_;rintro e we ⟨rfl,hbe⟩;have HBe:=zh ((HBW.out.later HBY.out).later (HBd.out.later hbe));clear hbe;go_wp2_with fail;go_ret;exact⟨rfl,HBe.out⟩
 subst hi0;obtain⟨x0,x1,x2,x3,x4,x5⟩:=HS1.out _ HB4.out;go_wp2_with fail;refine(HKT.out _ HB4.out).mono ?_;rintro e w5 ⟨rfl,hb5⟩;have HB5:=zh (HB4.out.later hb5);have HB25:=zh (HB24.out.later hb5);clear hb5 x0 x1 x2 x3 x4 x5;cases xt
 case false =>
  obtain⟨x0,x1,x2,x3,x4,x5⟩:=HS1.out _ HB5.out;go_wp2_with fail;refine(HKRI.out _ HB5.out).mono ?_;rintro e wa ⟨av,rfl,hla,hba⟩;obtain⟨Aa,capa,rfl,_,hCa⟩:=hla.reads;have HBa:=zh (HB5.out.later hba);have HCa:Hid (∀W,Below wa.heap.size wa W→Chgs W W.heap.size Aa G.length G):=fun W hW=>hCa.later hW;clear hba hla hCa x0 x1 x2 x3 x4 x5;obtain⟨x0,x1,x2,x3,x4,x5⟩:=HS1.out _ HBa.out;go_wp2_with fail;refine(HKRS.out _ HBa.out).mono ?_;rintro e wb ⟨bv,rfl,hlb,hbb⟩;have HBb:=zh (HBa.out.later hbb);have HBab:=zh hbb;clear hlb hbb x0 x1 x2 x3 x4 x5;obtain⟨x0,x1,x2,x3,x4,x5⟩:=HS1.out _ HBb.out;have hng:((gcode != gcode):Bool)=false:=by simp
  by_cases hg0:gcode=0;case neg=>have hb0:(gcode==(0:Int))=false:=beq_eq_false_iff_ne.2 hg0;go_wp2_with fail;go_ret;exact⟨rfl,HBW.out.later HBb.out⟩
  have HRT:=zh (HREB.out hg0);subst hg0;have HKDo:=zh (vN A1 fs.length cap1 Aa G.length capa fs G wb (HNX.out _ HBb.out) hts (HCa.out _ HBab.out) HGS.out.2 HGS.out.1);generalize uA fs G=DG at *;obtain⟨four,YS⟩:=DG;dsimp only at HRT;go_wp2_with fail;refine HKDo.out.mono ?_;rintro e wc ⟨yv,rfl,hnc,hbc⟩;obtain⟨Ac,capc,rfl,_,hNc⟩:=hnc.reads;have HBc:=zh (HBb.out.later hbc);clear hbc hnc HKDo x0 x1 x2 x3 x4 x5;obtain⟨WY,hWY⟩:∃WY,WY=wc.alloc (.cells #[.slice Ac YS.length capc] 26):=⟨_,rfl⟩;have HQY:Hid (Blk WY wc.heap.size 26 #[.slice Ac YS.length capc]):=by subst hWY;exact heap_alloc_new _ _
  have HBY:Hid (Below WX.heap.size WX WY):=by subst hWY;exact HBc.out.later (Below.new _ _)
  have HNY:Hid (∀W,Below WY.heap.size WY W→Nodes W W.heap.size Ac YS.length YS):=fun W hW=>by
   have h1:Nodes WY WY.heap.size Ac YS.length YS:=by subst hWY;exact hNc.later (Below.new _ _)
   exact h1.later hW
  clear hNc;by_cases hf0:four=0
  case neg =>
   have h4:four=4:=by
    rcases HRT.out.1 with h | h
    · exact absurd h hf0
    · exact h
   subst h4;go_wp2_with fail;go_ret;exact⟨zA0 (by first | rfl | simp),(HBW.out.later HBc.out).later (Below.new _ _)⟩
  have hyt:=HRT.out.2 hf0;subst hf0;have hyts:=zAc hyt;have HKY1:=zh (fun W (hW:Below WY.heap.size WY W)=>wI Ac YS.length capc _ _ _ _ YS d W (HNY.out W hW) (HTX.out W (HBY.out.later hW)) hyts hds);have HKY2:=zh (fun W (hW:Below WY.heap.size WY W)=>zP0 Ac YS.length capc _ _ _ _ YS d W (HTT.out W (HBY.out.later hW)) (HNY.out W hW) (HTX.out W (HBY.out.later hW)) hyts hds hyt);rw[hyt]at HKY1;obtain⟨x0,x1,x2,x3,x4,x5⟩:=HS1.out _ HBc.out;have hz2:w1.heap.size+1+1<wc.heap.size:=Nat.lt_of_lt_of_le HX2.out.lt HBc.out.size;have hz1:w1.heap.size+1<wc.heap.size:=by omega
  have hz0:w1.heap.size<wc.heap.size:=by omega
  go_wp2_with fail;rw[←hWY];clear hWY hz0 hz1 hz2;refine(HKY1.out _ (Below.refl _ _)).mono ?_;rintro e wd ⟨rfl,hbd⟩;have HBd:=zh hbd;have qd:=(HQY.out.later hbd HQY.out.lt).cell 0;simp at qd;clear hbd x0 x1 x2 x3 x4 x5;obtain⟨x0,x1,x2,x3,x4,x5⟩:=HS1.out _ (HBY.out.later HBd.out);go_wp2_with fail;refine(HKY2.out _ HBd.out).mono ?_;rintro e we ⟨rfl,hbe⟩;have HBe:=zh ((HBW.out.later HBY.out).later (HBd.out.later hbe));clear hbe;go_wp2_with fail;go_ret;exact⟨rfl,HBe.out⟩
 have HUT:=zh (HUP.out (by first | rfl | trivial) (by first | rfl | trivial));have HKD:=zh (vN A1 fs.length cap1 A5 L.length cap5 fs L w5 (HNX.out _ HB5.out) hts (HC2.out _ HB25.out) HIS.out.2 HIS.out.1);generalize uA fs L=DB at *;obtain⟨one,XS⟩:=DB;dsimp only at HUT;obtain⟨x0,x1,x2,x3,x4,x5⟩:=HS1.out _ HB5.out;go_wp2_with fail;refine HKD.out.mono ?_;rintro e w6 ⟨xv,rfl,hn6,hb6⟩;obtain⟨A8,cap8,rfl,_,hN6⟩:=hn6.reads;have HB6:=zh (HB5.out.later hb6);clear hb6 hn6 HKD HC2 HB25 HIS HUP x0 x1 x2 x3 x4 x5;obtain⟨WV,hWV⟩:∃WV,WV=w6.alloc (.cells #[.slice A8 XS.length cap8] 26):=⟨_,rfl⟩;have HQV:Hid (Blk WV w6.heap.size 26 #[.slice A8 XS.length cap8]):=by subst hWV;exact heap_alloc_new _ _
 have HBV:Hid (Below WX.heap.size WX WV):=by subst hWV;exact HB6.out.later (Below.new _ _)
 have HNV:Hid (∀W,Below WV.heap.size WV W→Nodes W W.heap.size A8 XS.length XS):=fun W hW=>by
  have h1:Nodes WV WV.heap.size A8 XS.length XS:=by subst hWV;exact hN6.later (Below.new _ _)
  exact h1.later hW
 clear hN6;by_cases ho0:one=0
 case neg =>
  have hb1:(one==(0:Int))=false:=beq_eq_false_iff_ne.2 ho0;have hcd:((0:Int) != 0)=false:=by decide
  obtain⟨x0,x1,x2,x3,x4,x5⟩:=HS1.out _ HB6.out;have hz2:w1.heap.size+1+1<w6.heap.size:=Nat.lt_of_lt_of_le HX2.out.lt HB6.out.size;have hz1:w1.heap.size+1<w6.heap.size:=by omega
  have hz0:w1.heap.size<w6.heap.size:=by omega
  go_wp2_with fail;rw[←hWV];clear hWV hz0 hz1 hz2;refine(HKRI.out _ HBV.out).mono ?_;rintro e wa ⟨av,rfl,hla,hba⟩;obtain⟨Aa,capa,rfl,_,hCa⟩:=hla.reads;have HBa:=zh (HBV.out.later hba);have HCa:Hid (∀W,Below wa.heap.size wa W→Chgs W W.heap.size Aa G.length G):=fun W hW=>hCa.later hW;clear hba hla hCa x0 x1 x2 x3 x4 x5;obtain⟨x0,x1,x2,x3,x4,x5⟩:=HS1.out _ HBa.out;go_wp2_with fail;refine(HKRS.out _ HBa.out).mono ?_;rintro e wb ⟨bv,rfl,hlb,hbb⟩;have HBb:=zh (HBa.out.later hbb);have HBab:=zh hbb;clear hlb hbb x0 x1 x2 x3 x4 x5;obtain⟨x0,x1,x2,x3,x4,x5⟩:=HS1.out _ HBb.out;have hng:((gcode != gcode):Bool)=false:=by simp
  by_cases hg0:gcode=0;case neg=>have hb0:(gcode==(0:Int))=false:=beq_eq_false_iff_ne.2 hg0;go_wp2_with fail;go_ret;exact⟨rfl,HBW.out.later HBb.out⟩
  have HRT:=zh (HREB.out hg0);subst hg0;have HKDo:=zh (vN A1 fs.length cap1 Aa G.length capa fs G wb (HNX.out _ HBb.out) hts (HCa.out _ HBab.out) HGS.out.2 HGS.out.1);generalize uA fs G=DG at *;obtain⟨four,YS⟩:=DG;dsimp only at HRT;go_wp2_with fail;refine HKDo.out.mono ?_;rintro e wc ⟨yv,rfl,hnc,hbc⟩;obtain⟨Ac,capc,rfl,_,hNc⟩:=hnc.reads;have HBc:=zh (HBb.out.later hbc);clear hbc hnc HKDo x0 x1 x2 x3 x4 x5;obtain⟨WY,hWY⟩:∃WY,WY=wc.alloc (.cells #[.slice Ac YS.length capc] 26):=⟨_,rfl⟩;have HQY:Hid (Blk WY wc.heap.size 26 #[.slice Ac YS.length capc]):=by subst hWY;exact heap_alloc_new _ _
  have HBY:Hid (Below WX.heap.size WX WY):=by subst hWY;exact HBc.out.later (Below.new _ _)
  have HNY:Hid (∀W,Below WY.heap.size WY W→Nodes W W.heap.size Ac YS.length YS):=fun W hW=>by
   have h1:Nodes WY WY.heap.size Ac YS.length YS:=by subst hWY;exact hNc.later (Below.new _ _)
   exact h1.later hW
  clear hNc;by_cases hf0:four=0
  case neg =>
   have h4:four=4:=by
    rcases HRT.out.1 with h | h
    · exact absurd h hf0
    · exact h
   subst h4;go_wp2_with fail;go_ret;exact⟨zA0 (by first | rfl | simp),(HBW.out.later HBc.out).later (Below.new _ _)⟩
  have hyt:=HRT.out.2 hf0;subst hf0;have hyts:=zAc hyt;have HKY1:=zh (fun W (hW:Below WY.heap.size WY W)=>wI Ac YS.length capc _ _ _ _ YS d W (HNY.out W hW) (HTX.out W (HBY.out.later hW)) hyts hds);have HKY2:=zh (fun W (hW:Below WY.heap.size WY W)=>zP0 Ac YS.length capc _ _ _ _ YS d W (HTT.out W (HBY.out.later hW)) (HNY.out W hW) (HTX.out W (HBY.out.later hW)) hyts hds hyt);rw[hyt]at HKY1;obtain⟨x0,x1,x2,x3,x4,x5⟩:=HS1.out _ HBc.out;have hz2:w1.heap.size+1+1<wc.heap.size:=Nat.lt_of_lt_of_le HX2.out.lt HBc.out.size;have hz1:w1.heap.size+1<wc.heap.size:=by omega
  have hz0:w1.heap.size<wc.heap.size:=by omega
  go_wp2_with fail;rw[←hWY];clear hWY hz0 hz1 hz2;refine(HKY1.out _ (Below.refl _ _)).mono ?_;rintro e wd ⟨rfl,hbd⟩;have HBd:=zh hbd;have qd:=(HQY.out.later hbd HQY.out.lt).cell 0;simp at qd;clear hbd x0 x1 x2 x3 x4 x5;obtain⟨x0,x1,x2,x3,x4,x5⟩:=HS1.out _ (HBY.out.later HBd.out);go_wp2_with fail;refine(HKY2.out _ HBd.out).mono ?_;rintro e we ⟨rfl,hbe⟩;have HBe:=zh ((HBW.out.later HBY.out).later (HBd.out.later hbe));clear hbe;go_wp2_with fail;go_ret;exact⟨rfl,HBe.out⟩
 have hxt:=HUT.out ho0;subst ho0;have hxs:=zAc hxt;have HKX1:=zh (fun W (hW:Below WV.heap.size WV W)=>zP0 A8 XS.length cap8 _ _ _ _ XS d W (HTT.out W (HBV.out.later hW)) (HNV.out W hW) (HTX.out W (HBV.out.later hW)) hxs hds hxt);have HKX2:=zh (fun W (hW:Below WV.heap.size WV W)=>wI A8 XS.length cap8 _ _ _ _ XS d W (HNV.out W hW) (HTX.out W (HBV.out.later hW)) hxs hds);rw[hxt]at HKX2;obtain⟨x0,x1,x2,x3,x4,x5⟩:=HS1.out _ HB6.out;have hz2:w1.heap.size+1+1<w6.heap.size:=Nat.lt_of_lt_of_le HX2.out.lt HB6.out.size;have hz1:w1.heap.size+1<w6.heap.size:=by omega
 have hz0:w1.heap.size<w6.heap.size:=by omega
 go_wp2_with fail;rw[←hWV];clear hWV hz0 hz1 hz2;refine(HKX1.out _ (Below.refl _ _)).mono ?_;rintro e w7 ⟨rfl,hb7⟩;have HB7:=zh hb7;have q7:=(HQV.out.later hb7 HQV.out.lt).cell 0;simp at q7;clear hb7 x0 x1 x2 x3 x4 x5;obtain⟨x0,x1,x2,x3,x4,x5⟩:=HS1.out _ (HBV.out.later HB7.out);go_wp2_with fail;refine(HKX2.out _ HB7.out).mono ?_;rintro e w8 ⟨rfl,hb8⟩;have HB8:=zh ((HBV.out.later HB7.out).later hb8);clear hb8 q7 x0 x1 x2 x3 x4 x5;obtain⟨x0,x1,x2,x3,x4,x5⟩:=HS1.out _ HB8.out;go_wp2_with fail;refine(HKRI.out _ HB8.out).mono ?_;rintro e wa ⟨av,rfl,hla,hba⟩;obtain⟨Aa,capa,rfl,_,hCa⟩:=hla.reads;have HBa:=zh (HB8.out.later hba);have HCa:Hid (∀W,Below wa.heap.size wa W→Chgs W W.heap.size Aa G.length G):=fun W hW=>hCa.later hW;clear hba hla hCa x0 x1 x2 x3 x4 x5;obtain⟨x0,x1,x2,x3,x4,x5⟩:=HS1.out _ HBa.out;go_wp2_with fail;refine(HKRS.out _ HBa.out).mono ?_;rintro e wb ⟨bv,rfl,hlb,hbb⟩;have HBb:=zh (HBa.out.later hbb);have HBab:=zh hbb;clear hlb hbb x0 x1 x2 x3 x4 x5;obtain⟨x0,x1,x2,x3,x4,x5⟩:=HS1.out _ HBb.out;have hng:((gcode != gcode):Bool)=false:=by simp
 by_cases hg0:gcode=0;case neg=>have hb0:(gcode==(0:Int))=false:=beq_eq_false_iff_ne.2 hg0;go_wp2_with fail;go_ret;exact⟨rfl,HBW.out.later HBb.out⟩
 have HRT:=zh (HREB.out hg0);subst hg0;have HKDo:=zh (vN A1 fs.length cap1 Aa G.length capa fs G wb (HNX.out _ HBb.out) hts (HCa.out _ HBab.out) HGS.out.2 HGS.out.1);generalize uA fs G=DG at *;obtain⟨four,YS⟩:=DG;dsimp only at HRT;go_wp2_with fail;refine HKDo.out.mono ?_;rintro e wc ⟨yv,rfl,hnc,hbc⟩;obtain⟨Ac,capc,rfl,_,hNc⟩:=hnc.reads;have HBc:=zh (HBb.out.later hbc);clear hbc hnc HKDo x0 x1 x2 x3 x4 x5;obtain⟨WY,hWY⟩:∃WY,WY=wc.alloc (.cells #[.slice Ac YS.length capc] 26):=⟨_,rfl⟩;have HQY:Hid (Blk WY wc.heap.size 26 #[.slice Ac YS.length capc]):=by subst hWY;exact heap_alloc_new _ _
 have HBY:Hid (Below WX.heap.size WX WY):=by subst hWY;exact HBc.out.later (Below.new _ _)
 have HNY:Hid (∀W,Below WY.heap.size WY W→Nodes W W.heap.size Ac YS.length YS):=fun W hW=>by
  have h1:Nodes WY WY.heap.size Ac YS.length YS:=by subst hWY;exact hNc.later (Below.new _ _)
  exact h1.later hW
 clear hNc;by_cases hf0:four=0
 case neg =>
  have h4:four=4:=by
   rcases HRT.out.1 with h | h
   · exact absurd h hf0
   · exact h
  subst h4;go_wp2_with fail;go_ret;exact⟨zA0 (by first | rfl | simp),(HBW.out.later HBc.out).later (Below.new _ _)⟩
 have hyt:=HRT.out.2 hf0;subst hf0;have hyts:=zAc hyt;have HKY1:=zh (fun W (hW:Below WY.heap.size WY W)=>wI Ac YS.length capc _ _ _ _ YS d W (HNY.out W hW) (HTX.out W (HBY.out.later hW)) hyts hds);have HKY2:=zh (fun W (hW:Below WY.heap.size WY W)=>zP0 Ac YS.length capc _ _ _ _ YS d W (HTT.out W (HBY.out.later hW)) (HNY.out W hW) (HTX.out W (HBY.out.later hW)) hyts hds hyt);rw[hyt]at HKY1;obtain⟨x0,x1,x2,x3,x4,x5⟩:=HS1.out _ HBc.out;have hz2:w1.heap.size+1+1<wc.heap.size:=Nat.lt_of_lt_of_le HX2.out.lt HBc.out.size;have hz1:w1.heap.size+1<wc.heap.size:=by omega
 have hz0:w1.heap.size<wc.heap.size:=by omega
 go_wp2_with fail;rw[←hWY];clear hWY hz0 hz1 hz2;refine(HKY1.out _ (Below.refl _ _)).mono ?_;rintro e wd ⟨rfl,hbd⟩;have HBd:=zh hbd;have qd:=(HQY.out.later hbd HQY.out.lt).cell 0;simp at qd;clear hbd x0 x1 x2 x3 x4 x5;obtain⟨x0,x1,x2,x3,x4,x5⟩:=HS1.out _ (HBY.out.later HBd.out);go_wp2_with fail;refine(HKY2.out _ HBd.out).mono ?_;rintro e we ⟨rfl,hbe⟩;have HBe:=zh ((HBW.out.later HBY.out).later (HBd.out.later hbe));clear hbe;go_wp2_with fail;go_ret;exact⟨rfl,HBe.out⟩
end Go.Proofs.YtgmaamnofhmecaaGreatDoor
