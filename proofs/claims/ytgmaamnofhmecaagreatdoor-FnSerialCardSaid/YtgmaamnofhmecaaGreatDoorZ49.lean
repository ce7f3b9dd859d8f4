import Derived.Test.YtgmaamnofhmecaaGreatDoorZ40
import Derived.Test.YtgmaamnofhmecaaGreatDoorZ48
import Derived.Test.YtgmaamnofhmecaaGreatDoorZ43
set_option linter.unusedSimpArgs false
open Go.Lib renaming hid → zh
namespace Go.Proofs.YtgmaamnofhmecaaGreatDoor
open Go.RowKit
set_option linter.unusedVariables false
theorem zKu {A B C D:Type} {G:A→B→C→D→Prop} {P:Prop} (H:A→B→C→D→Prop) (m:(∀a b c d,H a b c d→G a b c d)→P) (t:∀a b c d,H a b c d→G a b c d):P:=m t
set_option maxRecDepth 100000 in
set_option maxHeartbeats 40000000 in
theorem zIu (A:Option Addr) (n c:Nat) (A':Option Addr) (n' c':Nat) (w:World) (htab:yH w) (h:BytesR w w.heap.size A n) (hn:n≤9223372036854775807) (h':BytesR w w.heap.size A' n') (hn':n'≤9223372036854775807) :
 Calls Tryz.prog 4 #[.slice A n c,.slice A' n' c'] w fun e w'=>e=.returned (.bool true)∧Below w.heap.size w w':=by
 have HK1:=zh (zHn A n c A' n' c' w hn hn');by_cases hbig:(decide (1048576<n)||decide (1048576<n'))=true
 · rw[hbig]at HK1;clear h htab h';go_enter Tryz.func4,Tryz.ntmps4;go_wp2_with fail;refine HK1.out.mono ?_;rintro e w1 ⟨rfl,rfl⟩;go_wp2_with fail;go_ret;exact⟨rfl,Below.refl _ _⟩
 rw[Bool.not_eq_true]at hbig;rw[hbig]at HK1;have hn6:n≤1048576:=by simp at hbig;omega
 have HK2:=zh (zCd A n c w h hn6);have HTB:=zh htab;have HMO:Hid (∀W,Below w.heap.size w W→BytesR W W.heap.size A' n'):=fun W hW=>BytesR.laterS h' hW;clear h htab h' hbig;go_enter Tryz.func4,Tryz.ntmps4;go_wp2_with fail;refine HK1.out.mono ?_;rintro e w1 ⟨rfl,rfl⟩;go_wp2_with fail;refine HK2.out.mono ?_;rintro e w1 ⟨tv,fs,ov,l,gv,gs,rfl,hT,htr,hfi,hB,hnn,hgd,hG,hgr,hgf,hb1⟩;obtain⟨A1,cap1,rfl,hcap1,hN⟩:=hT.reads;obtain⟨A2,cap2,rfl,hcap2,hM⟩:=hG.reads;obtain⟨vs,hB⟩:=hB;obtain⟨g3,cap3,rfl,hcap3,hBt⟩:=hB.some_ hnn;obtain⟨hok,hce⟩:=zJT hgd;have hl8:=hgd.1;have hts:=wB htr;have hgs:=wB hgr;have hcl:=zDt hfi;obtain⟨WX,hWX⟩:∃WX,WX=(w1.alloc (.cells #[.slice A1 fs.length cap1] 26)).alloc (.cells #[.slice A2 gs.length cap2] 26):=⟨_,rfl⟩;have HBX:Hid (Below w1.heap.size w1 WX):=by subst hWX;exact(Below.new _ _).later (Below.new _ _)
 have HX0:Hid (Blk WX w1.heap.size 26 #[.slice A1 fs.length cap1]):=by subst hWX;exact uD _ _ _
 have HX1:Hid (Blk WX (w1.heap.size+1) 26 #[.slice A2 gs.length cap2]):=by subst hWX;exact zD0 _ _ _
 have HS1:Hid (∀W',Below WX.heap.size WX W'→(W'.cell? ⟨w1.heap.size,0,none⟩=some (.slice A1 fs.length cap1)∧W'.cell? ⟨w1.heap.size+1,0,none⟩=some (.slice A2 gs.length cap2))):=fun W' hW=>⟨(HX0.out.later hW HX0.out.lt).at 0 rfl,(HX1.out.later hW HX1.out.lt).at 0 rfl⟩;have HNX:Hid (∀W,Below WX.heap.size WX W→Nodes W W.heap.size A1 fs.length fs):=fun W hW=>hN.later (HBX.out.later hW);have HMX:Hid (∀W,Below WX.heap.size WX W→Nodes W W.heap.size A2 gs.length gs):=fun W hW=>hM.later (HBX.out.later hW);have HLX:Hid (∀W,Below WX.heap.size WX W→Bats W W.heap.size (some ⟨g3,0,none⟩) l.length l):=fun W hW=>hBt.later (HBX.out.later hW);have HBW:Hid (Below w.heap.size w WX):=hb1.later HBX.out;have HTT:Hid (∀W,Below WX.heap.size WX W→yH W):=fun W hW=>wA HTB.out (HBW.out.later hW);have HKI:=zh (fun W (hW:Below WX.heap.size WX W)=>zFm A1 fs.length cap1 (some ⟨g3,0,none⟩) l.length cap3 A2 gs.length cap2 fs l gs W (HTT.out W hW) (HNX.out W hW) hts hcl (HLX.out W hW) hok hce (HMX.out W hW) hgs);have HKS:=zh (fun W (hW:Below WX.heap.size WX W)=>zBV A1 fs.length cap1 (some ⟨g3,0,none⟩) l.length cap3 A2 gs.length cap2 fs l gs W (HNX.out W hW) hcap1 hts hcl (HLX.out W hW) hok hce (HMX.out W hW) hgs);have HKT:=zh (fun W (hW:Below WX.heap.size WX W)=>vP A1 fs.length cap1 (some ⟨g3,0,none⟩) l.length cap3 fs l W (HTT.out W hW) (HNX.out W hW) hts hcl (HLX.out W hW) hok hce);have HKU:=zh (fun k W (hW:Below WX.heap.size WX W) (hk:k≤l.length)=>vP A1 fs.length cap1 (some ⟨g3,0,none⟩) k cap3 fs (l.take k) W (HTT.out W hW) (HNX.out W hW) hts hcl (zIF (HLX.out W hW) hk) (zIi hok k) (fun b hb=>hce b (List.mem_of_mem_take hb)));have HKV:=zh (fun k A4 n4 c4 L4 q4 xs W (hW:Below WX.heap.size WX W) (hN4:Nodes W W.heap.size A4 n4 xs) (hs4:zC0 xs) (hc4:xD xs) (hL4:Bats W W.heap.size L4 (l.length-k) (l.drop k))=>vP A4 n4 c4 L4 (l.length-k) q4 xs (l.drop k) W (HTT.out W hW) hN4 hs4 hc4 hL4 (zIj hok k) (fun b hb=>hce b (List.mem_of_mem_drop hb)));have HG0:=zh (fun h0=>zFv (fs:=fs) (l:=l) h0 hcl hce);have HG1:=zh (fun k h0=>zFv (fs:=fs) (l:=l.take k) h0 hcl (fun b hb=>hce b (List.mem_of_mem_take hb)));have HST:=zh (fun h0:serB fs l gs=true=>zIX h0);have HSF:=zh (fun (h0:serB fs l gs=false) h1=>zIb h0 h1);have HLD:Hid (∀k W,Below WX.heap.size WX W→k<l.length→Bats W W.heap.size (some ⟨g3,k*2,none⟩) (l.length-k) (l.drop k)):=fun k W hW hk=>zIG (HLX.out W hW) hk;clear hN hM hBt hT hG hB hb1 HTB hok hce htr hgr hgf hfi hgd hnn hcl hts;obtain⟨z0,z1⟩:=HS1.out _ (Below.refl _ _);go_wp2_with fail;rw[←hWX];clear hWX;refine(HKI.out _ (Below.refl _ _)).mono ?_;rintro e w2 ⟨rfl,hb2⟩;have HB2:=zh hb2;clear hb2 z0 z1 HKI;obtain⟨z0,z1⟩:=HS1.out _ HB2.out;go_wp2_with fail;refine(HKS.out _ HB2.out).mono ?_;rintro e w3 ⟨rfl,hb3⟩;have HB3:=zh (HB2.out.later hb3);clear hb3 z0 z1 HKS HB2;generalize serB fs l gs=so at *;have hso:((so != so):Bool)=false:=by simp
 obtain⟨z0,z1⟩:=HS1.out _ HB3.out;go_wp2_with fail;refine(HKT.out _ HB3.out).mono ?_;rintro e w4 ⟨xv,rfl,hx4,hb4⟩;generalize hTB:tafB fs l=TB at *;obtain⟨cd,at0,xs⟩:=TB;dsimp only at hx4 HG0 HST HSF;obtain⟨A8,cap8,rfl,_,hNx⟩:=hx4.reads;have HB4:=zh (HB3.out.later hb4);clear hb4 hx4 z0 z1 HKT HB3 hTB;obtain⟨WV,hWV⟩:∃WV,WV=w4.alloc (.cells #[.slice A8 xs.length cap8] 26):=⟨_,rfl⟩;have HQV:Hid (Blk WV w4.heap.size 26 #[.slice A8 xs.length cap8]):=by subst hWV;exact heap_alloc_new _ _
 have HBV:Hid (Below WX.heap.size WX WV):=by subst hWV;exact HB4.out.later (Below.new _ _)
 have HNV:Hid (∀W,Below WV.heap.size WV W→Nodes W W.heap.size A8 xs.length xs):=fun W hW=>by
  have h1:Nodes WV WV.heap.size A8 xs.length xs:=by subst hWV;exact hNx.later (Below.new _ _)
  exact h1.later hW
 clear hNx;obtain⟨z0,z1⟩:=HS1.out _ HB4.out;have hy0:w1.heap.size+1<w4.heap.size:=Nat.lt_of_lt_of_le HX1.out.lt HB4.out.size;have hy1:w1.heap.size<w4.heap.size:=by omega
 cases so
 case false =>
  by_cases hc0:cd=0
  case neg =>
   have hb0:(cd != (0:Int))=true:=by simpa using hc0
   go_wp2_with fail;rw[←hWV];go_ret;exact⟨rfl,HBW.out.later HBV.out⟩
  have HNE:=zh (HSF.out rfl hc0);have HGO:=zh (HG0.out hc0);subst hc0;have HKE:=zh (fun W (hW:Below WV.heap.size WV W)=>wG A8 A2 xs.length cap8 gs.length cap2 xs gs W (HNV.out W hW) (HMX.out W (HBV.out.later hW)) (wB HGO.out.1) hgs);rw[decide_eq_false HNE.out]at HKE;go_wp2_with fail;rw[←hWV];clear hWV;refine(HKE.out _ (Below.refl _ _)).mono ?_;rintro e w5 ⟨rfl,hb5⟩;have HB5:=zh ((HBW.out.later HBV.out).later hb5);clear hb5;go_wp2_with fail;go_ret;exact⟨rfl,HB5.out⟩
 have HSE:=HST.out rfl;obtain⟨hc0,ha0,hxg,hks⟩:=HSE;have hgx:=hxg.symm;subst hc0 ha0 hgx;have HKS':=zh hks;clear hks HST HSF HG0;have HKA:=zh (zJv A' n' c' 0 ((l.length:Int)+1) WV (HMO.out _ (HBW.out.later HBV.out)) hn' (by omega) (by omega));go_wp2_with fail;rw[←hWV];clear hWV;refine HKA.out.mono ?_;rintro e w5 ⟨k,rfl,hk,hb5⟩;have hkl:k≤l.length:=by omega
 have HB5:=zh (HBV.out.later hb5);have HV5:=zh hb5;obtain⟨hc1,hc2,hc3⟩:=HKS'.out k hkl;have HKU1:=zh (fun W hW=>HKU.out k W hW hkl);have HGY:=zh (HG1.out k hc1)
 have HLV:Hid (∀L4 W,Below WX.heap.size WX W→(k<l.length→L4=some ⟨g3,k*2,none⟩)→Bats W W.heap.size L4 (l.length-k) (l.drop k)):=fun L4 W hW hL=>by
  by_cases hkk:k<l.length
  · rw[hL hkk];exact HLD.out k W hW hkk
  · exact⟨by rw[List.length_drop],fun h0=>absurd h0 (by omega)⟩
 clear hk hb5 z0 z1 HKA HKU HKS' HG1 HLD;generalize tafB fs (l.take k)=T1 at *;obtain⟨c1,a1,ys⟩:=T1;dsimp only at hc1 hc2 hc3 HKU1 HGY;subst hc1;have HKV1:=zh (fun A4 n4 c4 L4 q4 W hW hN4 hL4=>HKV.out k A4 n4 c4 L4 q4 ys W hW hN4 (wB HGY.out.1) HGY.out.2 hL4);clear HKV;generalize tafB ys (l.drop k)=T2 at *;obtain⟨c2,a2,zs⟩:=T2;dsimp only at hc2 hc3 HKV1;have hgz:=hc3.symm;subst hc2 hgz;have HSY:=zh (wB HGY.out.1);clear HGY;have hk3:k≤cap3:=by omega
 have hki:(k:Int)≤(cap3:Int):=by omega
 have hQ0:Hid (Blk (w5.alloc (.cells #[.slice none 0 0] 26)) w5.heap.size 26 #[.slice none 0 0]):=uH rfl;have HB5n:=zh (HB5.out.later (Below.new w5 (.cells #[.slice none 0 0] 26)));have HSW:Hid (∀W',Below w5.heap.size w5 W'→(W'.cell? ⟨w1.heap.size,0,none⟩=some (.slice A1 fs.length cap1)∧W'.cell? ⟨w1.heap.size+1,0,none⟩=some (.slice A2 gs.length cap2))):=fun W' hW=>HS1.out _ (HB5.out.later hW);obtain⟨z0,z1⟩:=HSW.out _ (Below.refl _ _);go_wp2_with fail;apply zKu (fun (W6:World) (qb:Nat) (AY:Option Addr) (cY:Nat)=>Hid (Blk W6 qb 26 #[.slice AY ys.length cY])∧Hid (Nodes W6 W6.heap.size AY ys.length ys)∧Hid (Below w5.heap.size w5 W6)∧ys.length≤cY)
 case m =>
  intro HALL
  go_region_held3 (fun W'=>(W'.cell? ⟨w1.heap.size,0,none⟩=some (.slice A1 fs.length cap1)∧W'.cell? ⟨w1.heap.size+1,0,none⟩=some (.slice A2 gs.length cap2)))
   (first | exact HSW.out _ (Below.refl _ _).drew | exact HSW.out _ (Below.new _ _).drew | exact HSW.out _ HBY.out | exact HSW.out _ (HBY.out.later (Below.new _ _)) | exact HSW.out _ (HBY.out.setCell (Nat.le_refl _) _))
   (first
     | (go_at_call 23;refine(HKU1.out _ (HB5.out.drew)).mono ?_;rintro e w6 ⟨v',rfl,hsub,hb6'⟩;obtain⟨AY,cY,rfl,hcY,_⟩:=hsub.reads;have HBX:=zh (vC hb6');have HBY:=zh HBX.out;have HSUB:=zh hsub;clear hsub hb6')
     | (go_at_call 23;refine(HKU1.out _ (HB5n.out.drew)).mono ?_;rintro e w6 ⟨v',rfl,hsub,hb6'⟩;obtain⟨AY,cY,rfl,hcY,_⟩:=hsub.reads;have HBX:=zh (vC hb6');have HBY:=zh ((Below.new w5 (.cells #[.slice none 0 0] 26)).later HBX.out);have HQ:=zh (Blk.later hQ0.out HBX.out (by simp));have q0:=(Blk.cell HQ.out 0);have qf:=Blk.frozen HQ.out 0;have qz:=Blk.lt HQ.out;have HSUB:=zh hsub;simp at q0;clear hsub hb6'))
  all_goals
   have hw3:=HB5.out.size
   first
     | (obtain⟨W5,hW5⟩:∃W5,W5=w6.setCell ⟨w5.heap.size,0,none⟩ (.slice AY ys.length cY):=⟨_,rfl⟩
        have HQ5:Hid (Blk W5 w5.heap.size 26 #[(.slice AY ys.length cY)]):=by subst hW5;unfold Hid;have h:=HQ.out.set_ 0 (.slice AY ys.length cY);simpa using h
        have HST:Hid (Nodes W5 W5.heap.size AY ys.length ys):=by obtain⟨A',c',e,_,hs⟩:=(NodesW.setBlk (i:=0) (u:=(.slice AY ys.length cY)) HSUB.out HQ.out (by decide) (by decide)).reads;injection e with e1 e2 e3;subst e1 e3 hW5;exact hs
        have HBZ:Hid (Below w5.heap.size w5 W5):=by subst hW5;exact HBY.out.setCell (p:=⟨w5.heap.size,0,none⟩) (Nat.le_refl _) (.slice AY ys.length cY)
        rw[←hW5];clear hW5 q0 qf qz HQ
        generalize w5.heap.size=qb at HQ5 ⊢)
     | (obtain⟨W5,hW5⟩:∃W5,W5=w6.alloc (.cells #[(.slice AY ys.length cY)] 26):=⟨_,rfl⟩
        have HQ5:Hid (Blk W5 w6.heap.size 26 #[(.slice AY ys.length cY)]):=by subst hW5;exact uH rfl
        have HST:Hid (Nodes W5 W5.heap.size AY ys.length ys):=by obtain⟨A',c',e,_,hs⟩:=(NodesW.later HSUB.out (Below.new w6 (.cells #[.slice AY ys.length cY] 26))).reads;injection e with e1 e2 e3;subst e1 e3 hW5;exact hs
        have HBZ:Hid (Below w5.heap.size w5 W5):=by subst hW5;exact HBY.out.later (Below.new _ _)
        rw[←hW5];clear hW5
        generalize w6.heap.size=qb at HQ5 ⊢)
   exact HALL _ _ _ _ ⟨HQ5,HST,HBZ,hcY⟩
 case t =>
  intro W6 qy AY cY HALL;obtain⟨HQ6,HNY,HBY,hcY⟩:=HALL;have HB6:=zh (HB5.out.later HBY.out);have HV6:=zh (HV5.out.later HBY.out);clear HKU1 HBY hQ0 HB5n HSW z0 z1;have HS6:Hid (∀W',Below W6.heap.size W6 W'→(W'.cell? ⟨w1.heap.size,0,none⟩=some (.slice A1 fs.length cap1)∧W'.cell? ⟨w1.heap.size+1,0,none⟩=some (.slice A2 gs.length cap2))∧W'.cell? ⟨qy,0,none⟩=some (.slice AY ys.length cY)):=fun W' hW=>⟨HS1.out _ (HB6.out.later hW),(HQ6.out.later hW HQ6.out.lt).at 0 rfl⟩;have HN6:Hid (∀W,Below W6.heap.size W6 W→Nodes W W.heap.size AY ys.length ys):=fun W hW=>HNY.out.later hW;obtain⟨⟨z0,z1⟩,z2⟩:=HS6.out _ (Below.refl _ _);have hkl':(k:Int)≤(l.length:Int):=by omega
  have hQ6n:Hid (Blk (W6.alloc (.cells #[.slice none 0 0] 26)) W6.heap.size 26 #[.slice none 0 0]):=uH rfl;have HB6n:=zh (HB6.out.later (Below.new W6 (.cells #[.slice none 0 0] 26)));have HTL:Hid (∀(W8:World) (qz:Nat) (AZ:Option Addr) (cZ:Nat),Hid (Blk W8 qz 26 #[.slice AZ gs.length cZ])∧Hid (Nodes W8 W8.heap.size AZ gs.length gs)∧Hid (Below W6.heap.size W6 W8)∧gs.length≤cZ→Below WX.heap.size WX W8∧Below WV.heap.size WV W8∧Below w.heap.size w W8):=fun W8 _ _ _ h=>⟨HB6.out.later h.2.2.1.out,HV6.out.later h.2.2.1.out,(HBW.out.later HB6.out).later h.2.2.1.out⟩;by_cases hck:cap3=k
  · subst hck;have hlk:l.length-cap3=0:=by omega
    rw[hlk]at HKV1 HLV;go_wp2_with fail;apply zKu (fun (W8:World) (qb:Nat) (AY':Option Addr) (cY':Nat)=>Hid (Blk W8 qb 26 #[.slice AY' gs.length cY'])∧Hid (Nodes W8 W8.heap.size AY' gs.length gs)∧Hid (Below W6.heap.size W6 W8)∧gs.length≤cY')
    case m =>
     intro HALL
     go_region_held3 (fun W'=>((W'.cell? ⟨w1.heap.size,0,none⟩=some (.slice A1 fs.length cap1)∧W'.cell? ⟨w1.heap.size+1,0,none⟩=some (.slice A2 gs.length cap2))∧W'.cell? ⟨qy,0,none⟩=some (.slice AY ys.length cY)))
      (first | exact HS6.out _ (Below.refl _ _).drew | exact HS6.out _ (Below.new _ _).drew | exact HS6.out _ HBY.out | exact HS6.out _ (HBY.out.later (Below.new _ _)) | exact HS6.out _ (HBY.out.setCell (Nat.le_refl _) _))
      (first
        | (go_at_call 23;refine(HKV1.out AY ys.length cY (some ⟨g3,0,none⟩) _ _ (HB6.out.drew) (HN6.out _ (Below.refl _ _).drew) (HLV.out _ _ (HB6.out.drew) (fun h=>absurd h (by omega)))).mono ?_;rintro e w8 ⟨v',rfl,hsub,hb6'⟩;obtain⟨AY,cY,rfl,hcY,_⟩:=hsub.reads;have HBX:=zh (vC hb6');have HBY:=zh HBX.out;have HSUB:=zh hsub;clear hsub hb6')
        | (go_at_call 23;refine(HKV1.out AY ys.length cY (some ⟨g3,0,none⟩) _ _ (HB6n.out.drew) (HN6.out _ (Below.new _ _).drew) (HLV.out _ _ (HB6n.out.drew) (fun h=>absurd h (by omega)))).mono ?_;rintro e w8 ⟨v',rfl,hsub,hb6'⟩;obtain⟨AY,cY,rfl,hcY,_⟩:=hsub.reads;have HBX:=zh (vC hb6');have HBY:=zh ((Below.new W6 (.cells #[.slice none 0 0] 26)).later HBX.out);have HQ:=zh (Blk.later hQ6n.out HBX.out (by simp));have q0:=(Blk.cell HQ.out 0);have qf:=Blk.frozen HQ.out 0;have qz:=Blk.lt HQ.out;have HSUB:=zh hsub;simp at q0;clear hsub hb6'))
     all_goals
      have hw3:=HB6.out.size
      first
        | (obtain⟨W5,hW5⟩:∃W5,W5=w8.setCell ⟨W6.heap.size,0,none⟩ (.slice AY gs.length cY):=⟨_,rfl⟩
           have HQ5:Hid (Blk W5 W6.heap.size 26 #[(.slice AY gs.length cY)]):=by subst hW5;unfold Hid;have h:=HQ.out.set_ 0 (.slice AY gs.length cY);simpa using h
           have HST:Hid (Nodes W5 W5.heap.size AY gs.length gs):=by obtain⟨A',c',e,_,hs⟩:=(NodesW.setBlk (i:=0) (u:=(.slice AY gs.length cY)) HSUB.out HQ.out (by decide) (by decide)).reads;injection e with e1 e2 e3;subst e1 e3 hW5;exact hs
           have HBZ:Hid (Below W6.heap.size W6 W5):=by subst hW5;exact HBY.out.setCell (p:=⟨W6.heap.size,0,none⟩) (Nat.le_refl _) (.slice AY gs.length cY)
           rw[←hW5];clear hW5 q0 qf qz HQ
           generalize W6.heap.size=qb at HQ5 ⊢)
        | (obtain⟨W5,hW5⟩:∃W5,W5=w8.alloc (.cells #[(.slice AY gs.length cY)] 26):=⟨_,rfl⟩
           have HQ5:Hid (Blk W5 w8.heap.size 26 #[(.slice AY gs.length cY)]):=by subst hW5;exact uH rfl
           have HST:Hid (Nodes W5 W5.heap.size AY gs.length gs):=by obtain⟨A',c',e,_,hs⟩:=(NodesW.later HSUB.out (Below.new w8 (.cells #[.slice AY gs.length cY] 26))).reads;injection e with e1 e2 e3;subst e1 e3 hW5;exact hs
           have HBZ:Hid (Below W6.heap.size W6 W5):=by subst hW5;exact HBY.out.later (Below.new _ _)
           rw[←hW5];clear hW5
           generalize w8.heap.size=qb at HQ5 ⊢)
      exact HALL _ _ _ _ ⟨HQ5,HST,HBZ,hcY⟩
    case t=>intro W8 qz AZ cZ HALL;obtain⟨HX8,HV8,HW8⟩:=HTL.out W8 qz AZ cZ HALL;obtain⟨HQ8,HN8,_,hcZ⟩:=HALL;have HB8:=zh HX8;have HS8:Hid (∀W',Below W8.heap.size W8 W'→(W'.cell? ⟨w1.heap.size,0,none⟩=some (.slice A1 fs.length cap1)∧W'.cell? ⟨w1.heap.size+1,0,none⟩=some (.slice A2 gs.length cap2))∧W'.cell? ⟨qz,0,none⟩=some (.slice AZ gs.length cZ)∧W'.cell? ⟨w4.heap.size,0,none⟩=some (.slice A8 gs.length cap8)):=fun W' hW=>⟨HS1.out _ (HX8.later hW),(HQ8.out.later hW HQ8.out.lt).at 0 rfl,(HQV.out.later (HV8.later hW) HQV.out.lt).at 0 rfl⟩;have HE1:=zh (wG AZ A8 gs.length cZ gs.length cap8 gs gs W8 HN8.out (HNV.out _ HV8) hgs hgs);have HE2:=zh (fun W (hW:Below W8.heap.size W8 W)=>wG A8 A2 gs.length cap8 gs.length cap2 gs gs W (HNV.out _ (HV8.later hW)) (HMX.out _ (HX8.later hW)) hgs hgs);rw[decide_eq_true rfl]at HE1 HE2;have HWW:=zh HW8;clear z0 z1 z2 HX8 HV8 HW8;obtain⟨⟨z0,z1⟩,z2,z3⟩:=HS8.out _ (Below.refl _ _);go_wp2_with fail;refine HE1.out.mono ?_;rintro e w9 ⟨rfl,hb9⟩;have HB9:=zh hb9;clear hb9 z0 z1 z2 z3;obtain⟨⟨z0,z1⟩,z2,z3⟩:=HS8.out _ HB9.out;go_wp2_with fail;refine(HE2.out _ HB9.out).mono ?_;rintro e w10 ⟨rfl,hb10⟩;have HB10:=zh ((HWW.out.later HB9.out).later hb10);clear hb10;go_wp2_with fail;go_ret;exact⟨rfl,HB10.out⟩
  · go_wp2_with fail;apply zKu (fun (W8:World) (qb:Nat) (AY':Option Addr) (cY':Nat)=>Hid (Blk W8 qb 26 #[.slice AY' gs.length cY'])∧Hid (Nodes W8 W8.heap.size AY' gs.length gs)∧Hid (Below W6.heap.size W6 W8)∧gs.length≤cY')
    case m =>
     intro HALL
     go_region_held3 (fun W'=>((W'.cell? ⟨w1.heap.size,0,none⟩=some (.slice A1 fs.length cap1)∧W'.cell? ⟨w1.heap.size+1,0,none⟩=some (.slice A2 gs.length cap2))∧W'.cell? ⟨qy,0,none⟩=some (.slice AY ys.length cY)))
      (first | exact HS6.out _ (Below.refl _ _).drew | exact HS6.out _ (Below.new _ _).drew | exact HS6.out _ HBY.out | exact HS6.out _ (HBY.out.later (Below.new _ _)) | exact HS6.out _ (HBY.out.setCell (Nat.le_refl _) _))
      (first
        | (go_at_call 23;refine(HKV1.out AY ys.length cY (some ⟨g3,k*2,none⟩) _ _ (HB6.out.drew) (HN6.out _ (Below.refl _ _).drew) (HLV.out _ _ (HB6.out.drew) (fun _=>rfl))).mono ?_;rintro e w8 ⟨v',rfl,hsub,hb6'⟩;obtain⟨AY,cY,rfl,hcY,_⟩:=hsub.reads;have HBX:=zh (vC hb6');have HBY:=zh HBX.out;have HSUB:=zh hsub;clear hsub hb6')
        | (go_at_call 23;refine(HKV1.out AY ys.length cY (some ⟨g3,k*2,none⟩) _ _ (HB6n.out.drew) (HN6.out _ (Below.new _ _).drew) (HLV.out _ _ (HB6n.out.drew) (fun _=>rfl))).mono ?_;rintro e w8 ⟨v',rfl,hsub,hb6'⟩;obtain⟨AY,cY,rfl,hcY,_⟩:=hsub.reads;have HBX:=zh (vC hb6');have HBY:=zh ((Below.new W6 (.cells #[.slice none 0 0] 26)).later HBX.out);have HQ:=zh (Blk.later hQ6n.out HBX.out (by simp));have q0:=(Blk.cell HQ.out 0);have qf:=Blk.frozen HQ.out 0;have qz:=Blk.lt HQ.out;have HSUB:=zh hsub;simp at q0;clear hsub hb6'))
     all_goals
      have hw3:=HB6.out.size
      first
        | (obtain⟨W5,hW5⟩:∃W5,W5=w8.setCell ⟨W6.heap.size,0,none⟩ (.slice AY gs.length cY):=⟨_,rfl⟩
           have HQ5:Hid (Blk W5 W6.heap.size 26 #[(.slice AY gs.length cY)]):=by subst hW5;unfold Hid;have h:=HQ.out.set_ 0 (.slice AY gs.length cY);simpa using h
           have HST:Hid (Nodes W5 W5.heap.size AY gs.length gs):=by obtain⟨A',c',e,_,hs⟩:=(NodesW.setBlk (i:=0) (u:=(.slice AY gs.length cY)) HSUB.out HQ.out (by decide) (by decide)).reads;injection e with e1 e2 e3;subst e1 e3 hW5;exact hs
           have HBZ:Hid (Below W6.heap.size W6 W5):=by subst hW5;exact HBY.out.setCell (p:=⟨W6.heap.size,0,none⟩) (Nat.le_refl _) (.slice AY gs.length cY)
           rw[←hW5];clear hW5 q0 qf qz HQ
           generalize W6.heap.size=qb at HQ5 ⊢)
        | (obtain⟨W5,hW5⟩:∃W5,W5=w8.alloc (.cells #[(.slice AY gs.length cY)] 26):=⟨_,rfl⟩
           have HQ5:Hid (Blk W5 w8.heap.size 26 #[(.slice AY gs.length cY)]):=by subst hW5;exact uH rfl
           have HST:Hid (Nodes W5 W5.heap.size AY gs.length gs):=by obtain⟨A',c',e,_,hs⟩:=(NodesW.later HSUB.out (Below.new w8 (.cells #[.slice AY gs.length cY] 26))).reads;injection e with e1 e2 e3;subst e1 e3 hW5;exact hs
           have HBZ:Hid (Below W6.heap.size W6 W5):=by subst hW5;exact HBY.out.later (Below.new _ _)
           rw[←hW5];clear hW5
           generalize w8.heap.size=qb at HQ5 ⊢)
      exact HALL _ _ _ _ ⟨HQ5,HST,HBZ,hcY⟩
    case t=>intro W8 qz AZ cZ HALL;obtain⟨HX8,HV8,HW8⟩:=HTL.out W8 qz AZ cZ HALL;obtain⟨HQ8,HN8,_,hcZ⟩:=HALL;have HB8:=zh HX8;have HS8:Hid (∀W',Below W8.heap.size W8 W'→(W'.cell? ⟨w1.heap.size,0,none⟩=some (.slice A1 fs.length cap1)∧W'.cell? ⟨w1.heap.size+1,0,none⟩=some (.slice A2 gs.length cap2))∧W'.cell? ⟨qz,0,none⟩=some (.slice AZ gs.length cZ)∧W'.cell? ⟨w4.heap.size,0,none⟩=some (.slice A8 gs.length cap8)):=fun W' hW=>⟨HS1.out _ (HX8.later hW),(HQ8.out.later hW HQ8.out.lt).at 0 rfl,(HQV.out.later (HV8.later hW) HQV.out.lt).at 0 rfl⟩;have HE1:=zh (wG AZ A8 gs.length cZ gs.length cap8 gs gs W8 HN8.out (HNV.out _ HV8) hgs hgs);have HE2:=zh (fun W (hW:Below W8.heap.size W8 W)=>wG A8 A2 gs.length cap8 gs.length cap2 gs gs W (HNV.out _ (HV8.later hW)) (HMX.out _ (HX8.later hW)) hgs hgs);rw[decide_eq_true rfl]at HE1 HE2;have HWW:=zh HW8;clear z0 z1 z2 HX8 HV8 HW8;obtain⟨⟨z0,z1⟩,z2,z3⟩:=HS8.out _ (Below.refl _ _);go_wp2_with fail;refine HE1.out.mono ?_;rintro e w9 ⟨rfl,hb9⟩;have HB9:=zh hb9;clear hb9 z0 z1 z2 z3;obtain⟨⟨z0,z1⟩,z2,z3⟩:=HS8.out _ HB9.out;go_wp2_with fail;refine(HE2.out _ HB9.out).mono ?_;rintro e w10 ⟨rfl,hb10⟩;have HB10:=zh ((HWW.out.later HB9.out).later hb10);clear hb10;go_wp2_with fail;go_ret;exact⟨rfl,HB10.out⟩
end Go.Proofs.YtgmaamnofhmecaaGreatDoor
