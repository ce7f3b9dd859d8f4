import Derived.Test.YtfpcjhajjejpdaaGreatDoorZ24
import Derived.Test.YtfpcjhajjejpdaaGreatDoorZ39
import Derived.Test.YtfpcjhajjejpdaaGreatDoorZ47
import Derived.Test.YtfpcjhajjejpdaaGreatDoorZ41
open Go.Lib renaming hid → zh
open List renaming getElem_cons_succ → zE, getElem_cons_zero → zF, getElem_toArray → zD, setIfInBounds_toArray → zA, set_cons_succ → zC, set_cons_zero → zB
namespace Go.Proofs.YtfpcjhajjejpdaaGreatDoor
open Go.RowKit
set_option linter.unusedVariables false
theorem zIO {fs:List NodeD} {d:TableD} {q:QueryD} (h:(zAf fs d q).1=0):uA fs=true∧wM d=true:=by
 unfold zAf at h;split at h;case isFalse=>cases h
 case isTrue hh=>rw[Bool.and_eq_true]at hh;exact⟨hh.1,zHc hh.2⟩
theorem zKu {fs:List NodeD} {d:TableD} {q:QueryD} (h0:(zAf fs d q).1=0) {key:ByteArray} {r:List ByteArray} (h:vX d.cols (xB d.glob fs) key=(0,r)):zAq fs d key=(0,r):=by
 unfold zAq;rw[if_pos (by rw[Bool.and_eq_true];exact zIO h0)];exact h
theorem zGn {Z:World} {g:Nat} {v:Value} {r:List ByteArray} (hb:Blk Z g 40 #[v]) (h:RowR Z Z.heap.size v r):RowsRd Z Z.heap.size (some ⟨g,0,none⟩) 1 [r]:=by
 refine⟨rfl,fun _=>⟨_,0,rfl,hb.lt,fun j hj=>?_⟩⟩;obtain rfl:j=0:=by omega
 exact⟨v,(hb.cell 0).trans rfl,h⟩
set_option maxRecDepth 100000 in
set_option maxHeartbeats 40000000 in
theorem zJK (A:Option Addr) (n c:Nat) (w:World) (htab:zU0 w) (h:BytesR w w.heap.size A n) (hn:n≤9223372036854775807) :
 Calls Tryz.prog 3 #[.slice A n c] w fun e w'=>e=.returned (.bool true)∧Below w.heap.size w w':=by
 have HK1:=zh (zJV A n c w hn);by_cases hbig:1048576<n
 · rw[decide_eq_true hbig]at HK1;clear h htab;go_enter Tryz.func3,Tryz.ntmps3;go_wp2_with fail;refine HK1.out.mono ?_;rintro e w1 ⟨rfl,rfl⟩;go_wp2_with fail;go_ret;exact⟨rfl,Below.refl _ _⟩
 rw[decide_eq_false hbig]at HK1;have HK2:=zh (zCS A n c w h (by omega));have HTB:=zh htab;clear h htab;go_enter Tryz.func3,Tryz.ntmps3;go_wp2_with fail;refine HK1.out.mono ?_;rintro e w1 ⟨rfl,rfl⟩;go_wp2_with fail;refine HK2.out.mono ?_;rintro e w1 ⟨v,fs,c0,c1,c2,c3,d,q0,q1,q2,q3,q4,q5,q,rfl,⟨hN,hT,hQ,hb1⟩,htr,htn,htq⟩;obtain⟨A1,cap1,rfl,hcap1,hN⟩:=hN.reads;have hTR:=hT.reads;obtain⟨e0,e1,⟨A2,n2,p2,e2,s2,k2⟩,⟨A3,n3,p3,e3,s3,k3⟩⟩:=hTR;subst e0 e1 e2 e3;have hqs:=zGe htq (by decide) (by decide);have e0:=hQ.tb;have e3:=hQ.ord;have e4:=hQ.desc;have e5:=hQ.lim;obtain⟨qA,pA,e1,kA,sA⟩:=hQ.cols.strs;obtain⟨A5,p5,e2,k5,hCD⟩:=hQ.wher.reads;obtain⟨tb,cs,wh,od,ds,lm⟩:=q;dsimp only at e0 e1 e2 e3 e4 e5 k5 hCD;subst e0 e1 e2 e3 e4 e5;have hds:=zCY htn (by decide);have hts:=wN htr;have hqs2:(⟨tb,[],wh,od,ds,lm⟩:QueryD).small:=⟨hqs.1,⟨by simp,fun s hs=>by simp at hs⟩,hqs.2.2.1,hqs.2.2.2⟩;obtain⟨WX,hWX⟩:∃WX,WX=((w1.alloc (.cells #[.slice A1 fs.length cap1] 26)).alloc (.cells #[.string d.name,.string d.glob,.slice A2 n2 p2,.slice A3 n3 p3] 29)).alloc (.cells #[.string tb,.slice none 0 0,.slice A5 wh.length p5,.string od,.bool ds,.int .i64 lm] 32):=⟨_,rfl⟩;have HBX:Hid (Below w1.heap.size w1 WX):=by subst hWX;exact wJ w1 _ _ _
 have HX0:Hid (Blk WX w1.heap.size 26 #[.slice A1 fs.length cap1]):=by subst hWX;exact zK0 _ _ _ _
 have HX1:Hid (Blk WX (w1.heap.size+1) 29 #[.string d.name,.string d.glob,.slice A2 n2 p2,.slice A3 n3 p3]):=by subst hWX;exact uI _ _ _ _
 have HX2:Hid (Blk WX (w1.heap.size+1+1) 32 #[.string tb,.slice none 0 0,.slice A5 wh.length p5,.string od,.bool ds,.int .i64 lm]):=by subst hWX;exact zI0 _ _ _ _
 have HS1:Hid (∀W,Below WX.heap.size WX W→(W.cell? ⟨w1.heap.size,0,none⟩=some (.slice A1 fs.length cap1)∧W.cell? ⟨w1.heap.size+1,0,none⟩=some (.string d.name)∧W.cell? ⟨w1.heap.size+1,1,none⟩=some (.string d.glob)∧W.cell? ⟨w1.heap.size+1,2,none⟩=some (.slice A2 n2 p2)∧W.cell? ⟨w1.heap.size+1,3,none⟩=some (.slice A3 n3 p3)∧W.cell? ⟨w1.heap.size+1+1,0,none⟩=some (.string tb)∧W.cell? ⟨w1.heap.size+1+1,1,none⟩=some (.slice none 0 0)∧W.cell? ⟨w1.heap.size+1+1,2,none⟩=some (.slice A5 wh.length p5)∧W.cell? ⟨w1.heap.size+1+1,3,none⟩=some (.string od)∧W.cell? ⟨w1.heap.size+1+1,4,none⟩=some (.bool ds)∧W.cell? ⟨w1.heap.size+1+1,5,none⟩=some (.int .i64 lm))):=fun W hW=>⟨(HX0.out.later hW HX0.out.lt).at 0 rfl,(HX1.out.later hW HX1.out.lt).at 0 rfl,(HX1.out.later hW HX1.out.lt).at 1 rfl,(HX1.out.later hW HX1.out.lt).at 2 rfl,(HX1.out.later hW HX1.out.lt).at 3 rfl,(HX2.out.later hW HX2.out.lt).at 0 rfl,(HX2.out.later hW HX2.out.lt).at 1 rfl,(HX2.out.later hW HX2.out.lt).at 2 rfl,(HX2.out.later hW HX2.out.lt).at 3 rfl,(HX2.out.later hW HX2.out.lt).at 4 rfl,(HX2.out.later hW HX2.out.lt).at 5 rfl⟩;have HNX:Hid (∀W,Below WX.heap.size WX W→Nodes W W.heap.size A1 fs.length fs):=fun W hW=>hN.later (HBX.out.later hW);have HTX:Hid (∀W,Below WX.heap.size WX W→TableR W W.heap.size (.string d.name) (.string d.glob) (.slice A2 n2 p2) (.slice A3 n3 p3) d):=fun W hW=>hT.reads.later (HBX.out.later hW);have HLX:Hid (∀W,Below WX.heap.size WX W→Strs W W.heap.size A2 n2 d.cols):=fun W hW=>s2.later (HBX.out.later hW);have HCX:Hid (∀W,Below WX.heap.size WX W→Conds W W.heap.size A5 wh.length wh):=fun W hW=>hCD.later (HBX.out.later hW);have HQX:Hid (∀W,Below WX.heap.size WX W→QueryR W W.heap.size (.string tb) (.slice none 0 0) (.slice A5 wh.length p5) (.string od) (.bool ds) (.int .i64 lm) ⟨tb,[],wh,od,ds,lm⟩):=fun W hW=>⟨rfl,⟨none,0,0,rfl,⟨rfl,fun h=>absurd h (by omega)⟩,Nat.le_refl _⟩,⟨A5,_,p5,rfl,HCX.out W hW,k5⟩,rfl,rfl,rfl⟩;have HBW:Hid (Below w.heap.size w WX):=hb1.later HBX.out;have HTT:Hid (∀W,Below WX.heap.size WX W→zU0 W):=fun W hW=>yF HTB.out (HBW.out.later hW);have HKI:=zh (fun W (hW:Below WX.heap.size WX W)=>zFS A1 fs.length cap1 _ _ _ _ _ _ _ _ _ _ fs d ⟨tb,[],wh,od,ds,lm⟩ W (HTT.out W hW) (HNX.out W hW) (HTX.out W hW) (HQX.out W hW) hts hds hqs2);have HKS:=zh (fun W (hW:Below WX.heap.size WX W)=>zCy A1 fs.length cap1 _ _ _ _ _ _ _ _ _ _ fs d ⟨tb,[],wh,od,ds,lm⟩ W (HNX.out W hW) (HTX.out W hW) (HQX.out W hW) hts hds hqs2);have HIS:Hid ((zAf fs d ⟨tb,[],wh,od,ds,lm⟩).1=0→QIs fs d ⟨tb,[],wh,od,ds,lm⟩ (zAf fs d ⟨tb,[],wh,od,ds,lm⟩).2):=zKv rfl;have HNO:Hid ((zAf fs d ⟨tb,[],wh,od,ds,lm⟩).1≠0→(zAf fs d ⟨tb,[],wh,od,ds,lm⟩).2=[]):=zJu;have HTA:Hid ((zAf fs d ⟨tb,[],wh,od,ds,lm⟩).1=0→uA fs=true∧wM d=true):=zIO;have HRA:Hid ((zAf fs d ⟨tb,[],wh,od,ds,lm⟩).1=0→∀key r,vX d.cols (xB d.glob fs) key=(0,r)→zAq fs d key=(0,r)):=fun h0 key r h=>zKu h0 h;have HCS:Hid (∀i,i<wh.length→(wh.getD i default).small):=fun i hi=>hqs.2.2.1.2 _ (vW wh i hi);have hn2:d.cols.length=n2:=s2.1;have hwl:wh.length≤1048576:=hqs.2.2.1.1;have HN2:=zh hn2;clear hN hT hQ hb1 hcap1 HTB htr htq hqs hqs2 hCD s2 s3 sA hn2 HK2;generalize zAf fs d ⟨tb,[],wh,od,ds,lm⟩=RB at *;obtain⟨code,L⟩:=RB;dsimp only at HIS HNO HTA HRA;obtain⟨x0,x1,x2,x3,x4,x5,x6,x7,x8,x9,x10⟩:=HS1.out _ (Below.refl _ _);go_wp2_with fail;(try rw[←hWX]);clear hWX;(try go_wp2_with fail);refine(HKI.out _ (Below.refl _ _)).mono ?_;rintro e w2 ⟨lv,rfl,hl2,hb2⟩;obtain⟨A6,cap6,rfl,hc6,hR2⟩:=zW0 hl2;have HB2:=zh hb2;have HR2:Hid (∀W,Below w2.heap.size w2 W→RowsRd W W.heap.size A6 L.length L):=fun W hW=>hR2.later hW;clear hb2 hl2 hR2 x0 x1 x2 x3 x4 x5 x6 x7 x8 x9 x10 HKI;obtain⟨x0,x1,x2,x3,x4,x5,x6,x7,x8,x9,x10⟩:=HS1.out _ HB2.out;go_wp2_with fail;refine(HKS.out _ HB2.out).mono ?_;rintro e w3 ⟨mv,rfl,hl3,hb3⟩;obtain⟨A7,cap7,rfl,hc7,hR3⟩:=zW0 hl3;have HB23:=zh hb3;have HB3:=zh (HB2.out.later hb3);have HR3:=zh hR3;have hneq:((code != code):Bool)=false:=by simp
 have HLS:Hid (L.length≤1048576∧∀r∈L,r.length≤1048576):=by
  by_cases h0:code=0
  · have h1:=HIS.out h0;refine⟨Nat.le_trans h1.few (by decide),fun r hr=>?_⟩;obtain⟨i,hi,rfl⟩:=List.getElem_of_mem hr;have:=(h1.small i hi).1.1
    rwa [List.getD_eq_getElem?_getD,List.getElem?_eq_getElem hi]at this
  · rw[HNO.out h0];exact⟨by simp,fun r hr=>by simp at hr⟩
 have HKC:=zh (zBC A6 A7 L.length cap6 cap7 L w3 (HR2.out _ HB23.out) HR3.out HLS.out.1 HLS.out.2);clear hb3 hl3 hR3 hc6 hc7 x0 x1 x2 x3 x4 x5 x6 x7 x8 x9 x10 HKS;obtain⟨x0,x1,x2,x3,x4,x5,x6,x7,x8,x9,x10⟩:=HS1.out _ HB3.out;go_wp2_with fail;refine HKC.out.mono ?_;rintro e w4 ⟨rfl,hb4⟩;have HB4:=zh (HB3.out.later hb4);have HB24:=zh (HB23.out.later hb4);clear hb4 HKC HR3 HB3 HB23 x0 x1 x2 x3 x4 x5 x6 x7 x8 x9 x10;obtain⟨x0,x1,x2,x3,x4,x5,x6,x7,x8,x9,x10⟩:=HS1.out _ HB4.out;by_cases h0:code=0
 case neg =>
  have hL:=HNO.out h0;subst hL;have hb0:(code==(0:Int))=false:=beq_eq_false_iff_ne.2 h0;have hn0:(code != (0:Int))=true:=by simp[bne,hb0]
  go_wp2_with fail;go_ret;exact⟨zA0 (by first | rfl | simp),HBW.out.later HB4.out⟩
 subst h0;have HQI:=zh (HIS.out rfl);have HRT:=zh (HRA.out rfl);obtain⟨_,htb⟩:=HTA.out rfl;have hpos:0<n2:=by have:=(uO htb).2.1;have:=HN2.out;omega
 have hn5:n2≤5:=by have:=(uO htb).2.2.1;have:=HN2.out;omega
 obtain⟨cb,co,rfl,_,_⟩:=(HLX.out _ (Below.refl _ _)).2 hpos;have hfew:=HQI.out.few;clear HIS HNO HTA HRA htb HLS hneq;have HKA:=zh (fun W (hW:Below WX.heap.size WX W) key (hk:key.size≤1048576)=>zKf A1 fs.length cap1 _ _ _ _ fs d key W (HTT.out W hW) (HNX.out W hW) (HTX.out W hW) hts hds hk);go_wp2_with fail;clear HNX HTX HQX hts hds;go_loopw [10] (fun i wr=>∃k:Nat,k≤L.length∧i=.int .i64 k∧Below w4.heap.size w4 wr) (fun i _=>L.length-(intOf i).toNat);case atStart=>exact⟨0,Nat.zero_le _,rfl,Below.refl _ _⟩
 case round =>
  obtain⟨k,hk,rfl,hb⟩:=hrel;obtain⟨W5,rfl⟩:∃W5,W5=wr:=⟨wr,rfl⟩;have HB5:=zh hb;have HX5:=zh (HB4.out.later hb);have HR5:Hid (∀W,Below W5.heap.size W5 W→RowsRd W W.heap.size A6 L.length L):=fun W hW=>HR2.out W (HB24.out.later (hb.later hW));clear hb x0 x1 x2 x3 x4 x5 x6 x7 x8 x9 x10;obtain⟨x0,x1,x2,x3,x4,x5,x6,x7,x8,x9,x10⟩:=HS1.out _ HX5.out;by_cases hlt:k<L.length
  · have hki:(k:Int)<(L.length:Int):=by omega
    obtain⟨rb,ro,rfl,hrb,_⟩:=(HR5.out _ (Below.refl _ _)).2 (by omega);have HC5:Hid (∀W,Below W5.heap.size W5 W→∀j,j<L.length→∃v,W.cell? ⟨rb,ro+j,none⟩=some v∧RowR W W.heap.size v (L.getD j default)):=fun W hW j hj=>by obtain⟨b',o',e',_,hc⟩:=(HR5.out W hW).2 (by omega);injection e' with e';injection e' with e1 e2;subst e1 e2;exact hc j hj
    obtain⟨hsm,hlen⟩:=HQI.out.small k hlt;have HFO:=zh (HRT.out _ _ (HQI.out.found k hlt));have HSM:=zh hsm;have HLE:Hid ((L.getD k default).length=n2):=hlen.trans HN2.out;obtain⟨rv,kc,RA,rn,rp,rfl,rs1,rk⟩:=HC5.out _ (Below.refl _ _) k hlt;have hrn:n2=rn:=HLE.out.symm.trans rs1.1;subst hrn;obtain⟨xb,xo,rfl,hxb,_⟩:=rs1.2 hpos;have HCK:Hid (∀W,Below W5.heap.size W5 W→W.cell? ⟨rb,ro+k,none⟩=some (.slice (some ⟨xb,xo,none⟩) n2 rp)):=fun W hW=>cell_later hW kc;have HRK:Hid (∀W,Below W5.heap.size W5 W→Strs W W.heap.size (some ⟨xb,xo,none⟩) n2 (L.getD k default)):=fun W hW=>rs1.later hW;have HCC:Hid (∀W,Below W5.heap.size W5 W→∀j,j<n2→W.cell? ⟨xb,xo+j,none⟩=some (.string ((L.getD k default).getD j ByteArray.empty))):=fun W hW j hj=>by obtain⟨b',o',e',_,hc⟩:=(HRK.out W hW).2 (by omega);injection e' with e';injection e' with e1 e2;subst e1 e2;exact hc j hj
    clear kc rs1 hsm hlen;have HKA5:=zh (fun W (hW:Below W5.heap.size W5 W)=>HKA.out W (HX5.out.later hW) ((L.getD k default).getD 0 ByteArray.empty) (HSM.out.2 _ (vW _ 0 (by rw[HLE.out];exact hpos))));rw[HFO.out]at HKA5;have HCOND:Hid (∀i,i<wh.length→∀c,c<n2→d.cols.getD c ByteArray.empty=(wh.getD i default).col→uP ((L.getD k default).getD c ByteArray.empty) (wh.getD i default)=true):=fun i hi c hc=>HQI.out.cond k hlt i hi c (by rw[HN2.out];exact hc);have HORD:Hid (∀m,m+1<L.length→∀c,c<n2→d.cols.getD c ByteArray.empty=od→(if ds=true then yB ((L.getD m default).getD c ByteArray.empty) ((L.getD (m+1) default).getD c ByteArray.empty) else yB ((L.getD (m+1) default).getD c ByteArray.empty) ((L.getD m default).getD c ByteArray.empty))=false):=fun m hm c hc=>HQI.out.ord m hm c (by rw[HN2.out];exact hc);have HSMS:Hid (∀j,j<n2→((L.getD k default).getD j ByteArray.empty).size≤1048576):=fun j hj=>HSM.out.2 _ (vW _ j (by rw[HLE.out];exact hj));have HSMA:=zh (fun i (hi:i<L.length)=>(HQI.out.small i hi).1);have HLEA:Hid (∀i,i<L.length→(L.getD i default).length=n2):=fun i hi=>((HQI.out.small i hi).2).trans HN2.out;have HS14:Hid (∀W,Below W5.heap.size W5 W→(W.cell? ⟨w1.heap.size,0,none⟩=some (.slice A1 fs.length cap1)∧W.cell? ⟨w1.heap.size+1,0,none⟩=some (.string d.name)∧W.cell? ⟨w1.heap.size+1,1,none⟩=some (.string d.glob)∧W.cell? ⟨w1.heap.size+1,2,none⟩=some (.slice (some ⟨cb,co,none⟩) n2 p2)∧W.cell? ⟨w1.heap.size+1,3,none⟩=some (.slice A3 n3 p3)∧W.cell? ⟨w1.heap.size+1+1,0,none⟩=some (.string tb)∧W.cell? ⟨w1.heap.size+1+1,1,none⟩=some (.slice none 0 0)∧W.cell? ⟨w1.heap.size+1+1,2,none⟩=some (.slice A5 wh.length p5)∧W.cell? ⟨w1.heap.size+1+1,3,none⟩=some (.string od)∧W.cell? ⟨w1.heap.size+1+1,4,none⟩=some (.bool ds)∧W.cell? ⟨w1.heap.size+1+1,5,none⟩=some (.int .i64 lm)∧W.cell? ⟨rb,ro+k,none⟩=some (.slice (some ⟨xb,xo,none⟩) n2 rp)∧W.cell? ⟨xb,xo,none⟩=some (.string ((L.getD k default).getD 0 ByteArray.empty)))):=fun W hW=>by obtain⟨x0,x1,x2,x3,x4,x5,x6,x7,x8,x9,x10⟩:=HS1.out _ (HX5.out.later hW);exact⟨x0,x1,x2,x3,x4,x5,x6,x7,x8,x9,x10,HCK.out W hW,by have:=HCC.out W hW 0 hpos;rwa [Nat.add_zero]at this⟩
    clear HFO HSM;have HLK:=zh HLE.out;generalize hrr:L.getD k default=r at *;have HRR:=zh hrr;clear hrr
    go_upto_region 14 with fail
    go_cut [11,12] (fun u v wx=>∃(g:Nat) (AT:Option Addr) (capT:Nat),u=.pointer (some ⟨g,0,none⟩)∧v=.int .i64 0∧Hid (Below W5.heap.size W5 wx)∧Hid (Blk wx g 40 #[.slice AT r.length capT])∧Hid (RowR wx wx.heap.size (.slice AT r.length capT) r))
    case first=>as_aux_lemma =>
     generalize hky:r.getD 0 ByteArray.empty=key at *;have HKY:=zh hky;clear hky;obtain⟨x0,x1,x2,x3,x4,x5,x6,x7,x8,x9,x10,x11,x12⟩:=HS14.out _ (Below.refl _ _)
     go_region_held3 (fun W=>W.cell? ⟨w1.heap.size,0,none⟩=some (.slice A1 fs.length cap1)∧W.cell? ⟨w1.heap.size+1,0,none⟩=some (.string d.name)∧W.cell? ⟨w1.heap.size+1,1,none⟩=some (.string d.glob)∧W.cell? ⟨w1.heap.size+1,2,none⟩=some (.slice (some ⟨cb,co,none⟩) n2 p2)∧W.cell? ⟨w1.heap.size+1,3,none⟩=some (.slice A3 n3 p3)∧W.cell? ⟨w1.heap.size+1+1,0,none⟩=some (.string tb)∧W.cell? ⟨w1.heap.size+1+1,1,none⟩=some (.slice none 0 0)∧W.cell? ⟨w1.heap.size+1+1,2,none⟩=some (.slice A5 wh.length p5)∧W.cell? ⟨w1.heap.size+1+1,3,none⟩=some (.string od)∧W.cell? ⟨w1.heap.size+1+1,4,none⟩=some (.bool ds)∧W.cell? ⟨w1.heap.size+1+1,5,none⟩=some (.int .i64 lm)∧W.cell? ⟨rb,ro+k,none⟩=some (.slice (some ⟨xb,xo,none⟩) n2 rp)∧W.cell? ⟨xb,xo,none⟩=some (.string key))
      (first | exact HS14.out _ H7.out | exact HS14.out _ (H7.out.later (Below.new _ _)) | exact HS14.out _ (H7.out.setCell (Nat.le_refl _) _) | exact HS14.out _ (Below.refl _ _).drew | exact HS14.out _ (Below.new _ _).drew | go_keep)
      (first
        | (go_at_call 12
           with_reducible refine(HKA5.out W5.drew ?_).mono ?_
           · exact(Below.refl _ _).drew
           rintro e w7 ⟨bk,rfl,hs7,hb7⟩;obtain⟨A9,cap9,rfl,_,_,_⟩:=Own.own_slice hs7;have H7:=zh (xC hb7)
           have HU7:Hid (Own.SubO w7 W5.heap.size (.slice A9 r.length cap9) r):=hs7)
        | (go_at_call 12
           with_reducible refine(HKA5.out (W5.alloc (.cells #[.slice none 0 0] 40)).drew ?_).mono ?_
           · exact(Below.new _ _).drew
           rintro e w7 ⟨bk,rfl,hs7,hb7⟩;obtain⟨A9,cap9,rfl,_,_,_⟩:=Own.own_slice hs7;have H7:=zh ((Below.new W5 (.cells #[.slice none 0 0] 40)).later (xC hb7));have hbx:Blk w7 W5.heap.size 40 #[.slice none 0 0]:=Blk.later (zD0 rfl) (xC hb7) (by simp);have bx0:=hbx.cell 0;have bxf:=hbx.frozen 0;have bxz:=hbx.lt;simp at bx0
           have HU7:Hid (Own.SubO w7 W5.heap.size (.slice A9 r.length cap9) r):=Own.own_base hs7 (by simp)))
     · go_wp2_with fail
       go_meet
       case rel=>exact⟨_,A9,cap9,rfl,rfl,H7.out.later (Below.new _ _),zD0 rfl,by obtain⟨A',c',e',hc',hs'⟩:=Own.SubO.strs HU7.out;exact⟨A',_,c',e',hs'.later (Below.new _ _),hc'⟩⟩
     · go_wp2_with fail
       go_meet
       case rel=>exact⟨_,A9,cap9,rfl,rfl,H7.out.setCell (Nat.le_refl _) _,hbx.set_ 0 _,by obtain⟨A',c',e',hc',hs'⟩:=Own.SubO.strs (HU7.out.setBlk hbx (by decide));exact⟨A',_,c',e',hs',hc'⟩⟩
    case rest=>as_aux_lemma =>
    obtain⟨g,AT,capT,rfl,rfl,HB6,HBG,HRG⟩:=hcut;obtain⟨W6,rfl⟩:∃W6,W6=wc:=⟨wc,rfl⟩;clear HS14 HKA5 x0 x1 x2 x3 x4 x5 x6 x7 x8 x9 x10;have HX6:=zh (HX5.out.later HB6.out);obtain⟨x0,x1,x2,x3,x4,x5,x6,x7,x8,x9,x10⟩:=HS1.out _ HX6.out
    have HK15:Hid (∀(Z:World) (a b:Nat),Below W6.heap.size W6 Z→Blk Z a 40 #[.slice AT r.length capT]→Blk Z b 40 #[.slice (some ⟨xb,xo,none⟩) n2 rp]→Calls Tryz.prog 11 #[.slice (some ⟨a,0,none⟩) 1 1,.slice (some ⟨b,0,none⟩) 1 1] Z (fun e w'=>e=.returned (.bool true)∧Below Z.heap.size Z w')):=fun Z a b hZ h1 h2 =>
     zBC _ _ 1 1 1 [r] Z (zGn h1 (HRG.out.later hZ)) (zGn h2 ⟨_,_,_,rfl,HRK.out Z (HB6.out.later hZ),rk⟩) (by omega) (fun x hx=>by rw[List.mem_singleton.1 hx,HLK.out];omega)
    have HSG:Hid (∀W,Below W6.heap.size W6 W→(W.cell? ⟨g,0,none⟩=some (.slice AT r.length capT)∧W.cell? ⟨rb,ro+k,none⟩=some (.slice (some ⟨xb,xo,none⟩) n2 rp))):=fun W hW=>⟨(HBG.out.later hW HBG.out.lt).at 0 rfl,HCK.out W (HB6.out.later hW)⟩;obtain⟨g0,g1⟩:=HSG.out _ (Below.refl _ _);have hgz:=HBG.out.lt;have hrz:rb<W6.heap.size:=Nat.lt_of_lt_of_le hrb HB6.out.size;have hgz1:g<W6.heap.size+1:=by omega
    have hrz1:rb<W6.heap.size+1:=by omega
    go_upto_region 15 with fail
    go_cut [84] (fun v wx=>v=.bool false∧Hid (Below W6.heap.size W6 wx))
    case first=>as_aux_lemma =>
     go_region_held3 (fun Z=>Z.cell? ⟨g,0,none⟩=some (.slice AT r.length capT)∧Z.cell? ⟨rb,ro+k,none⟩=some (.slice (some ⟨xb,xo,none⟩) n2 rp))
      (first | exact HSG.out _ (Below.refl _ _).drew | exact HSG.out _ (Below.new _ _).drew | exact HSG.out _ ((Below.new _ _).later (Below.new _ _)).drew | exact HSG.out _ (Below.new _ _) | exact HSG.out _ Ha.out | go_keep)
      (first
        | (go_at_call 11
           refine(HK15.out _ _ _ ?_ ?_ ?_).mono ?_
           · (first | exact((Below.new _ _).later (Below.new _ _)).drew)
           · (first | exact zC0 _ _ _ | exact uB _ _ _)
           · (first | exact zC0 _ _ _ | exact uB _ _ _)
           rintro e wa ⟨rfl,hba⟩
           have Ha:Hid (Below W6.heap.size W6 wa):=(((Below.new W6 _).later (Below.new _ _)).drew).later hba))
     all_goals
      go_wp2_with fail
      go_meet
      case rel=>exact⟨rfl,Ha.out⟩
    case rest=>as_aux_lemma =>
    obtain⟨rfl,HB7⟩:=hcut;obtain⟨W7,rfl⟩:∃W7,W7=wc:=⟨wc,rfl⟩;have HX7:=zh (HX6.out.later HB7.out);have HC7:=zh (HB6.out.later HB7.out);clear HK15 HSG g0 g1 hgz hrz hgz1 hrz1 HBG HRG x0 x1 x2 x3 x4 x5 x6 x7 x8 x9 x10 HX6 HB7 HB6;obtain⟨x0,x1,x2,x3,x4,x5,x6,x7,x8,x9,x10⟩:=HS1.out _ HX7.out;go_wp2_with fail;go_loopw [13] (fun i wr=>∃kk:Nat,kk≤wh.length∧i=.int .i64 kk∧Below W7.heap.size W7 wr) (fun i _=>wh.length-(intOf i).toNat);case atStart=>exact⟨0,Nat.zero_le _,rfl,Below.refl _ _⟩
    case round =>
     obtain⟨kk,hkk,rfl,hb⟩:=hrel;obtain⟨W8,rfl⟩:∃W8,W8=wr:=⟨wr,rfl⟩;have HB8:=zh hb;have HX8:=zh (HX7.out.later hb);have HC8:=zh (HC7.out.later hb);clear hb x0 x1 x2 x3 x4 x5 x6 x7 x8 x9 x10;obtain⟨x0,x1,x2,x3,x4,x5,x6,x7,x8,x9,x10⟩:=HS1.out _ HX8.out;by_cases hkw:kk<wh.length
     · have hkwi:(kk:Int)<(wh.length:Int):=by omega
       obtain⟨qb,qo,rfl,hqb,hqc⟩:=(HCX.out _ HX8.out).2 (by omega);obtain⟨z0,z1,z2,zc0,zc1,zc2,rfl,rfl,rfl⟩:=hqc kk hkw;have HCQ:=zh (fun W (hW:Below W8.heap.size W8 W)=>(⟨cell_later hW zc0,cell_later hW zc1,cell_later hW zc2⟩:_∧_∧_));have HCDS:=zh (HCS.out kk hkw);have HCND:=zh (HCOND.out kk hkw);clear hqc zc0 zc1 zc2;generalize wh.getD kk default=cd at *;obtain⟨ccol,cop,cval⟩:=cd;dsimp only at HCQ HCND;go_wp2_with fail;go_loopw [14] (fun i wr=>∃jj:Nat,jj≤n2∧i=.int .i64 jj∧Below W8.heap.size W8 wr) (fun i _=>n2-(intOf i).toNat);case atStart=>exact⟨0,Nat.zero_le _,rfl,Below.refl _ _⟩
       case round =>
        obtain⟨jj,hjj,rfl,hb⟩:=hrel;obtain⟨W9,rfl⟩:∃W9,W9=wr:=⟨wr,rfl⟩;have HB9:=zh hb;have HX9:=zh (HX8.out.later hb);have HC9:=zh (HC8.out.later hb);clear hb x0 x1 x2 x3 x4 x5 x6 x7 x8 x9 x10;obtain⟨x0,x1,x2,x3,x4,x5,x6,x7,x8,x9,x10⟩:=HS1.out _ HX9.out;by_cases hjn:jj<n2
        · have hjni:(jj:Int)<(n2:Int):=by omega
          have HS23:Hid (∀W,Below W9.heap.size W9 W→(W.cell? ⟨w1.heap.size+1,2,none⟩=some (.slice (some ⟨cb,co,none⟩) n2 p2)∧W.cell? ⟨cb,co+jj,none⟩=some (.string (d.cols.getD jj ByteArray.empty))∧W.cell? ⟨w1.heap.size+1+1,2,none⟩=some (.slice (some ⟨qb,qo,none⟩) wh.length p5)∧W.cell? ⟨qb,qo+kk*3,none⟩=some (.string ccol)∧W.cell? ⟨qb,qo+kk*3+1,none⟩=some (.int .i64 cop)∧W.cell? ⟨qb,qo+kk*3+2,none⟩=some (.string cval)∧W.cell? ⟨rb,ro+k,none⟩=some (.slice (some ⟨xb,xo,none⟩) n2 rp)∧W.cell? ⟨xb,xo+jj,none⟩=some (.string (r.getD jj ByteArray.empty)))):=fun W hW=>by obtain⟨x0,x1,x2,x3,x4,x5,x6,x7,x8,x9,x10⟩:=HS1.out _ (HX9.out.later hW);obtain⟨b',o',e',_,hc⟩:=(HLX.out W (HX9.out.later hW)).2 hpos;injection e' with e';injection e' with e1 e2;subst e1 e2;exact⟨x3,hc jj hjn,x7,(HCQ.out W (HB9.out.later hW)).1,(HCQ.out W (HB9.out.later hW)).2.1,(HCQ.out W (HB9.out.later hW)).2.2,HCK.out W (HC9.out.later hW),HCC.out W (HC9.out.later hW) jj hjn⟩
          have HKT:=zh (fun W (hW:Below W9.heap.size W9 W)=>zCt (r.getD jj ByteArray.empty) (.string ccol) (.int .i64 cop) (.string cval) ⟨ccol,cop,cval⟩ W (HTT.out W (HX9.out.later hW)) ⟨rfl,rfl,rfl⟩ HCDS.out (HSMS.out jj hjn));have HCNJ:=zh (HCND.out jj hjn);generalize d.cols.getD jj ByteArray.empty=x at *;generalize r.getD jj ByteArray.empty=y at *
          go_upto_region 23 with fail
          go_cut [127] (fun v wx=>v=.bool false∧Hid (Below W9.heap.size W9 wx))
          case first=>as_aux_lemma =>
           clear x0 x1 x2 x3 x4 x5 x6 x7 x8 x9 x10;obtain⟨z0,z1,z2,z3,z4,z5,z6,z7⟩:=HS23.out _ (Below.refl _ _);by_cases hxc:x=ccol
           · have hct:=HCNJ.out hxc;subst hxc;rw[hct]at HKT;clear hct;refine uL (S:=fun W=>W.cell? ⟨w1.heap.size+1,2,none⟩=some (.slice (some ⟨cb,co,none⟩) n2 p2)∧W.cell? ⟨cb,co+jj,none⟩=some (.string x)∧W.cell? ⟨w1.heap.size+1+1,2,none⟩=some (.slice (some ⟨qb,qo,none⟩) wh.length p5)∧W.cell? ⟨qb,qo+kk*3,none⟩=some (.string x)∧W.cell? ⟨qb,qo+kk*3+1,none⟩=some (.int .i64 cop)∧W.cell? ⟨qb,qo+kk*3+2,none⟩=some (.string cval)∧W.cell? ⟨rb,ro+k,none⟩=some (.slice (some ⟨xb,xo,none⟩) n2 rp)∧W.cell? ⟨xb,xo+jj,none⟩=some (.string y)) 28 (by kernel_rfl) ?hSae (fun hHeld=>?rgae);case hSae=>exact HS23.out _ (Below.refl _ _).drew
             refine yA (i:=0) (v:=?aeva1) [12,11,4,3,1] (by kernel_rfl) rfl (by kernel_rfl) (by kernel_rfl) (by kernel_rfl) (fun _ _ _ h=>h) (Or.inl ⟨by rfl,?aehy2⟩) (by assumption) ?aere3;case aehy2=>intro w hSw;(try dsimp only at hSw);obtain⟨s0,s1,s2,s3,s4,s5,s6,s7⟩:=hSw;go_simp;(try with_reducible rfl)
             try simp only[Act.put,zA,zB,zC,zD,zF]
             refine yA (i:=1) (v:=?aeva4) [12,11,4,3] (by kernel_rfl) rfl (by kernel_rfl) (by kernel_rfl) (by kernel_rfl) (fun _ _ _ h=>h) (Or.inl ⟨by rfl,?aehy5⟩) (by assumption) ?aere6;case aehy5=>intro w hSw;(try dsimp only at hSw);obtain⟨s0,s1,s2,s3,s4,s5,s6,s7⟩:=hSw;go_simp;(try with_reducible rfl)
             try simp only[Act.put,zA,zB,zC,zD,zE,zF]
             refine yA (i:=2) (v:=?aeva7) [12,11,4,3] (by kernel_rfl) rfl (by kernel_rfl) (by kernel_rfl) (by kernel_rfl) (fun _ _ _ h=>h) (Or.inl ⟨by rfl,?aehy8⟩) (by assumption) ?aere9;case aehy8=>intro w hSw;(try dsimp only at hSw);obtain⟨s0,s1,s2,s3,s4,s5,s6,s7⟩:=hSw;go_simp;(try with_reducible rfl)
             try simp only[Act.put,zA,zB,zC,zD,zE,zF]
             refine yA (i:=3) (v:=?aeva10) [12,11,4] (by kernel_rfl) rfl (by kernel_rfl) (by kernel_rfl) (by kernel_rfl) (fun _ _ _ h=>h) (Or.inl ⟨by rfl,?aehy11⟩) (by assumption) ?aere12;case aehy11=>intro w hSw;(try dsimp only at hSw);obtain⟨s0,s1,s2,s3,s4,s5,s6,s7⟩:=hSw;go_simp;(try with_reducible rfl)
             try simp only[Act.put,zA,zB,zC,zD,zE,zF]
             refine yA (i:=4) (v:=?aeva13) [12,11] (by kernel_rfl) rfl (by kernel_rfl) (by kernel_rfl) (by kernel_rfl) (fun _ _ _ h=>h) (Or.inl ⟨by rfl,?aehy14⟩) (by assumption) ?aere15;case aehy14=>intro w hSw;(try dsimp only at hSw);obtain⟨s0,s1,s2,s3,s4,s5,s6,s7⟩:=hSw;go_simp;(try with_reducible rfl)
             try simp only[Act.put,zA,zB,zC,zD,zE,zF]
             refine yA (i:=5) (v:=?aeva16) [12,11,10,9,8,6] (by kernel_rfl) rfl (by kernel_rfl) (by kernel_rfl) (by kernel_rfl) (fun _ _ _ h=>h) (Or.inl ⟨by rfl,?aehy17⟩) (by assumption) ?aere18;case aehy17=>intro w hSw;(try dsimp only at hSw);obtain⟨s0,s1,s2,s3,s4,s5,s6,s7⟩:=hSw;go_simp;(try with_reducible rfl)
             try simp only[Act.put,zA,zB,zC,zD,zE,zF]
             refine yA (i:=6) (v:=?aeva19) [12,11,10,9,8] (by kernel_rfl) rfl (by kernel_rfl) (by kernel_rfl) (by kernel_rfl) (fun _ _ _ h=>h) (Or.inl ⟨by rfl,?aehy20⟩) (by assumption) ?aere21;case aehy20=>intro w hSw;(try dsimp only at hSw);obtain⟨s0,s1,s2,s3,s4,s5,s6,s7⟩:=hSw;go_simp;(try with_reducible rfl)
             try simp only[Act.put,zA,zB,zC,zD,zE,zF]
             refine yA (i:=7) (v:=?aeva22) [12,11,10,9,8] (by kernel_rfl) rfl (by kernel_rfl) (by kernel_rfl) (by kernel_rfl) (fun _ _ _ h=>h) (Or.inl ⟨by rfl,?aehy23⟩) (by assumption) ?aere24;case aehy23=>intro w hSw;(try dsimp only at hSw);obtain⟨s0,s1,s2,s3,s4,s5,s6,s7⟩:=hSw;go_simp;(try with_reducible rfl)
             try simp only[Act.put,zA,zB,zC,zD,zE,zF]
             refine yA (i:=8) (v:=?aeva25) [12,11,10,9] (by kernel_rfl) rfl (by kernel_rfl) (by kernel_rfl) (by kernel_rfl) (fun _ _ _ h=>h) (Or.inl ⟨by rfl,?aehy26⟩) (by assumption) ?aere27;case aehy26=>intro w hSw;(try dsimp only at hSw);obtain⟨s0,s1,s2,s3,s4,s5,s6,s7⟩:=hSw;go_simp;(try with_reducible rfl)
             try simp only[Act.put,zA,zB,zC,zD,zE,zF]
             refine yA (i:=9) (v:=?aeva28) [12,11,10] (by kernel_rfl) rfl (by kernel_rfl) (by kernel_rfl) (by kernel_rfl) (fun _ _ _ h=>h) (Or.inl ⟨by rfl,?aehy29⟩) (by assumption) ?aere30;case aehy29=>intro w hSw;(try dsimp only at hSw);obtain⟨s0,s1,s2,s3,s4,s5,s6,s7⟩:=hSw;go_simp;(try with_reducible rfl)
             try simp only[Act.put,zA,zB,zC,zD,zE,zF]
             refine yA (i:=10) (v:=?aeva31) [12,11] (by kernel_rfl) rfl (by kernel_rfl) (by kernel_rfl) (by kernel_rfl) (fun _ _ _ h=>h) (Or.inl ⟨by rfl,?aehy32⟩) (by assumption) ?aere33;case aehy32=>intro w hSw;(try dsimp only at hSw);obtain⟨s0,s1,s2,s3,s4,s5,s6,s7⟩:=hSw;go_simp;(try with_reducible rfl)
             try simp only[Act.put,zA,zB,zC,zD,zE,zF]
             refine yA (i:=11) (v:=?aeva34) [12] (by kernel_rfl) rfl (by kernel_rfl) (by kernel_rfl) (by kernel_rfl) (fun _ _ _ h=>h) (Or.inl ⟨by rfl,?aehy35⟩) (by assumption) ?aere36;case aehy35=>intro w hSw;(try dsimp only at hSw);obtain⟨s0,s1,s2,s3,s4,s5,s6,s7⟩:=hSw;go_simp;(try with_reducible rfl)
             try simp only[Act.put,zA,zB,zC,zD,zE,zF]
             refine yA (i:=12) (v:=?aeva37) [] (by kernel_rfl) rfl (by kernel_rfl) (by kernel_rfl) (by kernel_rfl) (fun _ _ _ h=>h) (Or.inl ⟨by rfl,?aehy38⟩) (by assumption) ?aere39;case aehy38=>intro w hSw;(try dsimp only at hSw);obtain⟨s0,s1,s2,s3,s4,s5,s6,s7⟩:=hSw;go_simp;(try with_reducible rfl)
             try simp only[Act.put,zA,zB,zC,zD,zE,zF]
             refine yA (i:=13) (v:=?aeva40) [27,26,20,19,17,16,15] (by kernel_rfl) rfl (by kernel_rfl) (by kernel_rfl) (by kernel_rfl) (fun _ _ _ h=>h) (Or.inl ⟨by rfl,?aehy41⟩) (by assumption) ?aere42;case aehy41=>intro w hSw;(try dsimp only at hSw);obtain⟨s0,s1,s2,s3,s4,s5,s6,s7⟩:=hSw;go_simp;(try with_reducible rfl)
             try simp only[Act.put,zA,zB,zC,zD,zE,zF]
             refine yA (i:=14) (v:=?aeva43) [27,26,20,19,17,16,15] (by kernel_rfl) rfl (by kernel_rfl) (by kernel_rfl) (by kernel_rfl) (fun _ _ _ h=>h) (Or.inl ⟨by rfl,?aehy44⟩) (by assumption) ?aere45;case aehy44=>intro w hSw;(try dsimp only at hSw);obtain⟨s0,s1,s2,s3,s4,s5,s6,s7⟩:=hSw;go_simp;(try with_reducible rfl)
             try simp only[Act.put,zA,zB,zC,zD,zE,zF]
             refine yA (i:=15) (v:=?aeva46) [27,26,20,19,17,16] (by kernel_rfl) rfl (by kernel_rfl) (by kernel_rfl) (by kernel_rfl) (fun _ _ _ h=>h) (Or.inl ⟨by rfl,?aehy47⟩) (by assumption) ?aere48;case aehy47=>intro w hSw;(try dsimp only at hSw);obtain⟨s0,s1,s2,s3,s4,s5,s6,s7⟩:=hSw;go_simp;(try with_reducible rfl)
             try simp only[Act.put,zA,zB,zC,zD,zE,zF]
             refine yA (i:=16) (v:=?aeva49) [27,26,20,19,17] (by kernel_rfl) rfl (by kernel_rfl) (by kernel_rfl) (by kernel_rfl) (fun _ _ _ h=>h) (Or.inl ⟨by rfl,?aehy50⟩) (by assumption) ?aere51;case aehy50=>intro w hSw;(try dsimp only at hSw);obtain⟨s0,s1,s2,s3,s4,s5,s6,s7⟩:=hSw;go_simp;(try with_reducible rfl)
             try simp only[Act.put,zA,zB,zC,zD,zE,zF]
             refine yA (i:=17) (v:=?aeva52) [27,26,20,19] (by kernel_rfl) rfl (by kernel_rfl) (by kernel_rfl) (by kernel_rfl) (fun _ _ _ h=>h) (Or.inl ⟨by rfl,?aehy53⟩) (by assumption) ?aere54;case aehy53=>intro w hSw;(try dsimp only at hSw);obtain⟨s0,s1,s2,s3,s4,s5,s6,s7⟩:=hSw;go_simp;(try with_reducible rfl)
             try simp only[Act.put,zA,zB,zC,zD,zE,zF]
             refine yA (i:=18) (v:=?aeva55) [27,26,20,19] (by kernel_rfl) rfl (by kernel_rfl) (by kernel_rfl) (by kernel_rfl) (fun _ _ _ h=>h) (Or.inl ⟨by rfl,?aehy56⟩) (by assumption) ?aere57;case aehy56=>intro w hSw;(try dsimp only at hSw);obtain⟨s0,s1,s2,s3,s4,s5,s6,s7⟩:=hSw;go_simp;(try with_reducible rfl)
             try simp only[Act.put,zA,zB,zC,zD,zE,zF]
             refine yA (i:=19) (v:=?aeva58) [27,26,20] (by kernel_rfl) rfl (by kernel_rfl) (by kernel_rfl) (by kernel_rfl) (fun _ _ _ h=>h) (Or.inl ⟨by rfl,?aehy59⟩) (by assumption) ?aere60;case aehy59=>intro w hSw;(try dsimp only at hSw);obtain⟨s0,s1,s2,s3,s4,s5,s6,s7⟩:=hSw;go_simp;(try with_reducible rfl)
             try simp only[Act.put,zA,zB,zC,zD,zE,zF]
             refine yA (i:=20) (v:=?aeva61) [27,26] (by kernel_rfl) rfl (by kernel_rfl) (by kernel_rfl) (by kernel_rfl) (fun _ _ _ h=>h) (Or.inl ⟨by rfl,?aehy62⟩) (by assumption) ?aere63;case aehy62=>intro w hSw;(try dsimp only at hSw);obtain⟨s0,s1,s2,s3,s4,s5,s6,s7⟩:=hSw;go_simp;(try with_reducible rfl)
             try simp only[Act.put,zA,zB,zC,zD,zE,zF]
             refine yA (i:=21) (v:=?aeva64) [27,26,25,24,22] (by kernel_rfl) rfl (by kernel_rfl) (by kernel_rfl) (by kernel_rfl) (fun _ _ _ h=>h) (Or.inl ⟨by rfl,?aehy65⟩) (by assumption) ?aere66;case aehy65=>intro w hSw;(try dsimp only at hSw);obtain⟨s0,s1,s2,s3,s4,s5,s6,s7⟩:=hSw;go_simp;(try with_reducible rfl)
             try simp only[Act.put,zA,zB,zC,zD,zE,zF]
             refine yA (i:=22) (v:=?aeva67) [27,26,25,24] (by kernel_rfl) rfl (by kernel_rfl) (by kernel_rfl) (by kernel_rfl) (fun _ _ _ h=>h) (Or.inl ⟨by rfl,?aehy68⟩) (by assumption) ?aere69;case aehy68=>intro w hSw;(try dsimp only at hSw);obtain⟨s0,s1,s2,s3,s4,s5,s6,s7⟩:=hSw;go_simp;(try with_reducible rfl)
             try simp only[Act.put,zA,zB,zC,zD,zE,zF]
             refine yA (i:=23) (v:=?aeva70) [27,26,25,24] (by kernel_rfl) rfl (by kernel_rfl) (by kernel_rfl) (by kernel_rfl) (fun _ _ _ h=>h) (Or.inl ⟨by rfl,?aehy71⟩) (by assumption) ?aere72;case aehy71=>intro w hSw;(try dsimp only at hSw);obtain⟨s0,s1,s2,s3,s4,s5,s6,s7⟩:=hSw;go_simp;(try with_reducible rfl)
             try simp only[Act.put,zA,zB,zC,zD,zE,zF]
             refine yA (i:=24) (v:=?aeva73) [27,26,25] (by kernel_rfl) rfl (by kernel_rfl) (by kernel_rfl) (by kernel_rfl) (fun _ _ _ h=>h) (Or.inl ⟨by rfl,?aehy74⟩) (by assumption) ?aere75;case aehy74=>intro w hSw;(try dsimp only at hSw);obtain⟨s0,s1,s2,s3,s4,s5,s6,s7⟩:=hSw;go_simp;(try with_reducible rfl)
             try simp only[Act.put,zA,zB,zC,zD,zE,zF]
             refine yA (i:=25) (v:=?aeva76) [27,26] (by kernel_rfl) rfl (by kernel_rfl) (by kernel_rfl) (by kernel_rfl) (fun _ _ _ h=>h) (Or.inl ⟨by rfl,?aehy77⟩) (by assumption) ?aere78;case aehy77=>intro w hSw;(try dsimp only at hSw);obtain⟨s0,s1,s2,s3,s4,s5,s6,s7⟩:=hSw;go_simp;(try with_reducible rfl)
             try simp only[Act.put,zA,zB,zC,zD,zE,zF]
             refine wA (rs:=[26]) (by kernel_rfl) (by simp) ?_;refine AllReadyE.cons rfl (fun KW hK=>?aest79) AllReadyE.nil;go_simp;refine(HKT.out _ (by exact(Below.refl _ _).drew)).mono ?_;rintro e wb ⟨rfl,hbb⟩;have Hb:Hid (Below W9.heap.size W9 wb):=((Below.refl _ _).drew).later hbb;clear hbb;try go_wp2_with fail
             refine hK.out _ _ (fun _=>?aeke80) (fun hHeld'=>?aers81);case aeke80=>exact HS23.out _ Hb.out
             have hHeld:=hHeld' (by decide);clear hHeld';clear hK KW;try simp only[Act.put,zA,zB,zC,zD,zE,zF]
             refine yA (i:=27) (v:=?aeva82) [] (by kernel_rfl) rfl (by kernel_rfl) (by kernel_rfl) (by kernel_rfl) (fun _ _ _ h=>h) (Or.inl ⟨by rfl,?aehy83⟩) (by assumption) ?aere84;case aehy83=>intro w hSw;(try dsimp only at hSw);obtain⟨s0,s1,s2,s3,s4,s5,s6,s7⟩:=hSw;go_simp;(try with_reducible rfl)
             try simp only[Act.put,zA,zB,zC,zD,zE,zF]
             refine wA (rs:=[28]) (by kernel_rfl) (by simp) ?_;refine AllReadyE.cons rfl (fun KW hK=>?aest85) AllReadyE.nil;go_simp;refine hK.out _ _ (fun h=>absurd rfl h) (fun hHeld=>?aers87);clear hK KW;try simp only[Act.put,zA,zB,zC,zD,zE,zF]
             refine yM (by kernel_rfl) ?_ _;go_wp2_with fail
             go_meet
             case rel=>exact⟨rfl,Hb.out⟩
           · have hb2:=uC hxc;refine uL (S:=fun W=>W.cell? ⟨w1.heap.size+1,2,none⟩=some (.slice (some ⟨cb,co,none⟩) n2 p2)∧W.cell? ⟨cb,co+jj,none⟩=some (.string x)∧W.cell? ⟨w1.heap.size+1+1,2,none⟩=some (.slice (some ⟨qb,qo,none⟩) wh.length p5)∧W.cell? ⟨qb,qo+kk*3,none⟩=some (.string ccol)∧W.cell? ⟨qb,qo+kk*3+1,none⟩=some (.int .i64 cop)∧W.cell? ⟨qb,qo+kk*3+2,none⟩=some (.string cval)∧W.cell? ⟨rb,ro+k,none⟩=some (.slice (some ⟨xb,xo,none⟩) n2 rp)∧W.cell? ⟨xb,xo+jj,none⟩=some (.string y)) 28 (by kernel_rfl) ?hSan (fun hHeld=>?rgan);case hSan=>exact HS23.out _ (Below.refl _ _).drew
             refine yA (i:=0) (v:=?anva1) [12,11,4,3,1] (by kernel_rfl) rfl (by kernel_rfl) (by kernel_rfl) (by kernel_rfl) (fun _ _ _ h=>h) (Or.inl ⟨by rfl,?anhy2⟩) (by assumption) ?anre3;case anhy2=>intro w hSw;(try dsimp only at hSw);obtain⟨s0,s1,s2,s3,s4,s5,s6,s7⟩:=hSw;go_simp;(try with_reducible rfl)
             try simp only[Act.put,zA,zB,zC,zD,zF]
             refine yA (i:=1) (v:=?anva4) [12,11,4,3] (by kernel_rfl) rfl (by kernel_rfl) (by kernel_rfl) (by kernel_rfl) (fun _ _ _ h=>h) (Or.inl ⟨by rfl,?anhy5⟩) (by assumption) ?anre6;case anhy5=>intro w hSw;(try dsimp only at hSw);obtain⟨s0,s1,s2,s3,s4,s5,s6,s7⟩:=hSw;go_simp;(try with_reducible rfl)
             try simp only[Act.put,zA,zB,zC,zD,zE,zF]
             refine yA (i:=2) (v:=?anva7) [12,11,4,3] (by kernel_rfl) rfl (by kernel_rfl) (by kernel_rfl) (by kernel_rfl) (fun _ _ _ h=>h) (Or.inl ⟨by rfl,?anhy8⟩) (by assumption) ?anre9;case anhy8=>intro w hSw;(try dsimp only at hSw);obtain⟨s0,s1,s2,s3,s4,s5,s6,s7⟩:=hSw;go_simp;(try with_reducible rfl)
             try simp only[Act.put,zA,zB,zC,zD,zE,zF]
             refine yA (i:=3) (v:=?anva10) [12,11,4] (by kernel_rfl) rfl (by kernel_rfl) (by kernel_rfl) (by kernel_rfl) (fun _ _ _ h=>h) (Or.inl ⟨by rfl,?anhy11⟩) (by assumption) ?anre12;case anhy11=>intro w hSw;(try dsimp only at hSw);obtain⟨s0,s1,s2,s3,s4,s5,s6,s7⟩:=hSw;go_simp;(try with_reducible rfl)
             try simp only[Act.put,zA,zB,zC,zD,zE,zF]
             refine yA (i:=4) (v:=?anva13) [12,11] (by kernel_rfl) rfl (by kernel_rfl) (by kernel_rfl) (by kernel_rfl) (fun _ _ _ h=>h) (Or.inl ⟨by rfl,?anhy14⟩) (by assumption) ?anre15;case anhy14=>intro w hSw;(try dsimp only at hSw);obtain⟨s0,s1,s2,s3,s4,s5,s6,s7⟩:=hSw;go_simp;(try with_reducible rfl)
             try simp only[Act.put,zA,zB,zC,zD,zE,zF]
             refine yA (i:=5) (v:=?anva16) [12,11,10,9,8,6] (by kernel_rfl) rfl (by kernel_rfl) (by kernel_rfl) (by kernel_rfl) (fun _ _ _ h=>h) (Or.inl ⟨by rfl,?anhy17⟩) (by assumption) ?anre18;case anhy17=>intro w hSw;(try dsimp only at hSw);obtain⟨s0,s1,s2,s3,s4,s5,s6,s7⟩:=hSw;go_simp;(try with_reducible rfl)
             try simp only[Act.put,zA,zB,zC,zD,zE,zF]
             refine yA (i:=6) (v:=?anva19) [12,11,10,9,8] (by kernel_rfl) rfl (by kernel_rfl) (by kernel_rfl) (by kernel_rfl) (fun _ _ _ h=>h) (Or.inl ⟨by rfl,?anhy20⟩) (by assumption) ?anre21;case anhy20=>intro w hSw;(try dsimp only at hSw);obtain⟨s0,s1,s2,s3,s4,s5,s6,s7⟩:=hSw;go_simp;(try with_reducible rfl)
             try simp only[Act.put,zA,zB,zC,zD,zE,zF]
             refine yA (i:=7) (v:=?anva22) [12,11,10,9,8] (by kernel_rfl) rfl (by kernel_rfl) (by kernel_rfl) (by kernel_rfl) (fun _ _ _ h=>h) (Or.inl ⟨by rfl,?anhy23⟩) (by assumption) ?anre24;case anhy23=>intro w hSw;(try dsimp only at hSw);obtain⟨s0,s1,s2,s3,s4,s5,s6,s7⟩:=hSw;go_simp;(try with_reducible rfl)
             try simp only[Act.put,zA,zB,zC,zD,zE,zF]
             refine yA (i:=8) (v:=?anva25) [12,11,10,9] (by kernel_rfl) rfl (by kernel_rfl) (by kernel_rfl) (by kernel_rfl) (fun _ _ _ h=>h) (Or.inl ⟨by rfl,?anhy26⟩) (by assumption) ?anre27;case anhy26=>intro w hSw;(try dsimp only at hSw);obtain⟨s0,s1,s2,s3,s4,s5,s6,s7⟩:=hSw;go_simp;(try with_reducible rfl)
             try simp only[Act.put,zA,zB,zC,zD,zE,zF]
             refine yA (i:=9) (v:=?anva28) [12,11,10] (by kernel_rfl) rfl (by kernel_rfl) (by kernel_rfl) (by kernel_rfl) (fun _ _ _ h=>h) (Or.inl ⟨by rfl,?anhy29⟩) (by assumption) ?anre30;case anhy29=>intro w hSw;(try dsimp only at hSw);obtain⟨s0,s1,s2,s3,s4,s5,s6,s7⟩:=hSw;go_simp;(try with_reducible rfl)
             try simp only[Act.put,zA,zB,zC,zD,zE,zF]
             refine yA (i:=10) (v:=?anva31) [12,11] (by kernel_rfl) rfl (by kernel_rfl) (by kernel_rfl) (by kernel_rfl) (fun _ _ _ h=>h) (Or.inl ⟨by rfl,?anhy32⟩) (by assumption) ?anre33;case anhy32=>intro w hSw;(try dsimp only at hSw);obtain⟨s0,s1,s2,s3,s4,s5,s6,s7⟩:=hSw;go_simp;(try with_reducible rfl)
             try simp only[Act.put,zA,zB,zC,zD,zE,zF]
             refine yA (i:=11) (v:=?anva34) [12] (by kernel_rfl) rfl (by kernel_rfl) (by kernel_rfl) (by kernel_rfl) (fun _ _ _ h=>h) (Or.inl ⟨by rfl,?anhy35⟩) (by assumption) ?anre36;case anhy35=>intro w hSw;(try dsimp only at hSw);obtain⟨s0,s1,s2,s3,s4,s5,s6,s7⟩:=hSw;go_simp;(try with_reducible rfl)
             try simp only[Act.put,zA,zB,zC,zD,zE,zF]
             refine yA (i:=12) (v:=?anva37) [] (by kernel_rfl) rfl (by kernel_rfl) (by kernel_rfl) (by kernel_rfl) (fun _ _ _ h=>h) (Or.inl ⟨by rfl,?anhy38⟩) (by assumption) ?anre39;case anhy38=>intro w hSw;(try dsimp only at hSw);obtain⟨s0,s1,s2,s3,s4,s5,s6,s7⟩:=hSw;go_simp;(try with_reducible rfl)
             try simp only[Act.put,zA,zB,zC,zD,zE,zF]
             refine yA (i:=13) (v:=undef) [27,26,20,19,17,16,15] (by kernel_rfl) rfl (by kernel_rfl) (by kernel_rfl) (by kernel_rfl) (fun _ _ _ h=>h) (Or.inr ⟨by rfl,rfl⟩) (by assumption) ?anre40;try simp only[Act.put,zA,zB,zC,zD,zE,zF]
             refine yA (i:=14) (v:=undef) [27,26,20,19,17,16,15] (by kernel_rfl) rfl (by kernel_rfl) (by kernel_rfl) (by kernel_rfl) (fun _ _ _ h=>h) (Or.inr ⟨by rfl,rfl⟩) (by assumption) ?anre41;try simp only[Act.put,zA,zB,zC,zD,zE,zF]
             refine yA (i:=15) (v:=undef) [27,26,20,19,17,16] (by kernel_rfl) rfl (by kernel_rfl) (by kernel_rfl) (by kernel_rfl) (fun _ _ _ h=>h) (Or.inr ⟨by rfl,rfl⟩) (by assumption) ?anre42;try simp only[Act.put,zA,zB,zC,zD,zE,zF]
             refine yA (i:=16) (v:=undef) [27,26,20,19,17] (by kernel_rfl) rfl (by kernel_rfl) (by kernel_rfl) (by kernel_rfl) (fun _ _ _ h=>h) (Or.inr ⟨by rfl,rfl⟩) (by assumption) ?anre43;try simp only[Act.put,zA,zB,zC,zD,zE,zF]
             refine yA (i:=17) (v:=undef) [27,26,20,19] (by kernel_rfl) rfl (by kernel_rfl) (by kernel_rfl) (by kernel_rfl) (fun _ _ _ h=>h) (Or.inr ⟨by rfl,rfl⟩) (by assumption) ?anre44;try simp only[Act.put,zA,zB,zC,zD,zE,zF]
             refine yA (i:=18) (v:=undef) [27,26,20,19] (by kernel_rfl) rfl (by kernel_rfl) (by kernel_rfl) (by kernel_rfl) (fun _ _ _ h=>h) (Or.inr ⟨by rfl,rfl⟩) (by assumption) ?anre45;try simp only[Act.put,zA,zB,zC,zD,zE,zF]
             refine yA (i:=19) (v:=undef) [27,26,20] (by kernel_rfl) rfl (by kernel_rfl) (by kernel_rfl) (by kernel_rfl) (fun _ _ _ h=>h) (Or.inr ⟨by rfl,rfl⟩) (by assumption) ?anre46;try simp only[Act.put,zA,zB,zC,zD,zE,zF]
             refine yA (i:=20) (v:=undef) [27,26] (by kernel_rfl) rfl (by kernel_rfl) (by kernel_rfl) (by kernel_rfl) (fun _ _ _ h=>h) (Or.inr ⟨by rfl,rfl⟩) (by assumption) ?anre47;try simp only[Act.put,zA,zB,zC,zD,zE,zF]
             refine yA (i:=21) (v:=undef) [27,26,25,24,22] (by kernel_rfl) rfl (by kernel_rfl) (by kernel_rfl) (by kernel_rfl) (fun _ _ _ h=>h) (Or.inr ⟨by rfl,rfl⟩) (by assumption) ?anre48;try simp only[Act.put,zA,zB,zC,zD,zE,zF]
             refine yA (i:=22) (v:=undef) [27,26,25,24] (by kernel_rfl) rfl (by kernel_rfl) (by kernel_rfl) (by kernel_rfl) (fun _ _ _ h=>h) (Or.inr ⟨by rfl,rfl⟩) (by assumption) ?anre49;try simp only[Act.put,zA,zB,zC,zD,zE,zF]
             refine yA (i:=23) (v:=undef) [27,26,25,24] (by kernel_rfl) rfl (by kernel_rfl) (by kernel_rfl) (by kernel_rfl) (fun _ _ _ h=>h) (Or.inr ⟨by rfl,rfl⟩) (by assumption) ?anre50;try simp only[Act.put,zA,zB,zC,zD,zE,zF]
             refine yA (i:=24) (v:=undef) [27,26,25] (by kernel_rfl) rfl (by kernel_rfl) (by kernel_rfl) (by kernel_rfl) (fun _ _ _ h=>h) (Or.inr ⟨by rfl,rfl⟩) (by assumption) ?anre51;try simp only[Act.put,zA,zB,zC,zD,zE,zF]
             refine yA (i:=25) (v:=undef) [27,26] (by kernel_rfl) rfl (by kernel_rfl) (by kernel_rfl) (by kernel_rfl) (fun _ _ _ h=>h) (Or.inr ⟨by rfl,rfl⟩) (by assumption) ?anre52;try simp only[Act.put,zA,zB,zC,zD,zE,zF]
             refine yA (i:=26) (v:=undef) [27] (by kernel_rfl) rfl (by kernel_rfl) (by kernel_rfl) (by kernel_rfl) (fun _ _ _ h=>h) (Or.inr ⟨by rfl,rfl⟩) (by assumption) ?anre53;try simp only[Act.put,zA,zB,zC,zD,zE,zF]
             refine yA (i:=27) (v:=undef) [] (by kernel_rfl) rfl (by kernel_rfl) (by kernel_rfl) (by kernel_rfl) (fun _ _ _ h=>h) (Or.inr ⟨by rfl,rfl⟩) (by assumption) ?anre54;try simp only[Act.put,zA,zB,zC,zD,zE,zF]
             refine wA (rs:=[28]) (by kernel_rfl) (by simp) ?_;refine AllReadyE.cons rfl (fun KW hK=>?anst55) AllReadyE.nil;go_simp;refine hK.out _ _ (fun h=>absurd rfl h) (fun hHeld=>?anrs57);clear hK KW;try simp only[Act.put,zA,zB,zC,zD,zE,zF]
             refine yM (by kernel_rfl) ?_ _;go_wp2_with fail
             go_meet
             case rel=>exact⟨rfl,(Below.refl _ _).drew⟩
          case rest=>as_aux_lemma =>
          obtain⟨rfl,HBA⟩:=hcut;clear HS23 HKT HCNJ;go_wp2_with fail;go_roundw;case rel=>exact⟨jj+1,by omega,by go_num,HB9.out.later HBA.out⟩
          case measure=>simp[intOf];omega
        · have hjni:¬((jj:Int)<(n2:Int)):=by omega
          go_wp2_with fail;go_roundw;case rel=>exact⟨kk+1,by omega,by go_num,HB8.out.later HB9.out⟩
          case measure=>simp[intOf];omega
     · have hkwi:¬((kk:Int)<(wh.length:Int)):=by omega
       go_wp2_with fail;go_loopw [15] (fun i wr=>∃jj:Nat,jj≤n2∧i=.int .i64 jj∧Below W8.heap.size W8 wr) (fun i _=>n2-(intOf i).toNat);case atStart=>exact⟨0,Nat.zero_le _,rfl,Below.refl _ _⟩
       case round =>
        obtain⟨jj,hjj,rfl,hb⟩:=hrel;obtain⟨W9,rfl⟩:∃W9,W9=wr:=⟨wr,rfl⟩;have HB9:=zh hb;have HX9:=zh (HX8.out.later hb);have HC9:=zh (HC8.out.later hb);clear hb x0 x1 x2 x3 x4 x5 x6 x7 x8 x9 x10;obtain⟨x0,x1,x2,x3,x4,x5,x6,x7,x8,x9,x10⟩:=HS1.out _ HX9.out;by_cases hjn:jj<n2
        · have hjni:(jj:Int)<(n2:Int):=by omega
          by_cases hk0:k=0
          · have hkg:¬((0:Int)<(k:Int)):=by omega
            go_wp2_with fail;go_roundw;case rel=>exact⟨k+1,by omega,by go_num,HB5.out.later HC9.out⟩
            case measure=>simp[intOf];omega
          · have hkg:(0:Int)<(k:Int):=by omega
            obtain⟨m,hm⟩:∃m,k=m+1:=⟨k-1,by omega⟩;have hml:m<L.length:=by omega
            have hmi:(k:Int)-1=(m:Int):=by omega
            have HOJ:=zh (HORD.out m (by omega) jj hjn);rw[←hm,HRR.out]at HOJ;clear hm;obtain⟨pv,kp,RP,pn,pp,rfl,ps1,pk⟩:=HC5.out _ HC9.out m hml;have hpn:n2=pn:=(HLEA.out m hml).symm.trans ps1.1;subst hpn;obtain⟨pb,po,rfl,hpb,hpc⟩:=ps1.2 hpos;have hpj:=hpc jj hjn;have HPS:=HSMA.out m hml;have hpz:(( L.getD m default).getD jj ByteArray.empty).size≤1048576:=HPS.2 _ (vW _ jj (by rw[HLEA.out m hml];exact hjn));have HS29:Hid (∀W,Below W9.heap.size W9 W→(W.cell? ⟨w1.heap.size+1,2,none⟩=some (.slice (some ⟨cb,co,none⟩) n2 p2)∧W.cell? ⟨cb,co+jj,none⟩=some (.string (d.cols.getD jj ByteArray.empty))∧W.cell? ⟨w1.heap.size+1+1,3,none⟩=some (.string od)∧W.cell? ⟨w1.heap.size+1+1,4,none⟩=some (.bool ds)∧W.cell? ⟨rb,ro+k,none⟩=some (.slice (some ⟨xb,xo,none⟩) n2 rp)∧W.cell? ⟨xb,xo+jj,none⟩=some (.string (r.getD jj ByteArray.empty))∧W.cell? ⟨rb,ro+m,none⟩=some (.slice (some ⟨pb,po,none⟩) n2 pp)∧W.cell? ⟨pb,po+jj,none⟩=some (.string ((L.getD m default).getD jj ByteArray.empty)))):=fun W hW=>by obtain⟨x0,x1,x2,x3,x4,x5,x6,x7,x8,x9,x10⟩:=HS1.out _ (HX9.out.later hW);obtain⟨b',o',e',_,hc⟩:=(HLX.out W (HX9.out.later hW)).2 hpos;injection e' with e';injection e' with e1 e2;subst e1 e2;exact⟨x3,hc jj hjn,x8,x9,HCK.out W (HC9.out.later hW),HCC.out W (HC9.out.later hW) jj hjn,cell_later hW kp,cell_later hW hpj⟩
            have HKB1:=zh (fun W=>yJ ((L.getD m default).getD jj ByteArray.empty) (r.getD jj ByteArray.empty) W hpz (HSMS.out jj hjn));have HKB2:=zh (fun W=>yJ (r.getD jj ByteArray.empty) ((L.getD m default).getD jj ByteArray.empty) W (HSMS.out jj hjn) hpz);clear kp ps1 pk hpc hpj HPS hpz;generalize (L.getD m default).getD jj ByteArray.empty=z at *;generalize d.cols.getD jj ByteArray.empty=x at *;generalize r.getD jj ByteArray.empty=y at *;by_cases hxo:x=od
            case neg =>
             go_upto_region 28 with fail
             go_cut [146] (fun v wx=>v=.bool true∧Hid (Below W9.heap.size W9 wx))
             case first=>as_aux_lemma =>
              clear x0 x1 x2 x3 x4 x5 x6 x7 x8 x9 x10;obtain⟨z0,z1,z2,z3,z4,z5,z6,z7⟩:=HS29.out _ (Below.refl _ _);have hb3:=zP0 hxo
              go_region_held3 (fun W=>W.cell? ⟨w1.heap.size+1,2,none⟩=some (.slice (some ⟨cb,co,none⟩) n2 p2)∧W.cell? ⟨cb,co+jj,none⟩=some (.string x)∧W.cell? ⟨w1.heap.size+1+1,3,none⟩=some (.string od)∧W.cell? ⟨w1.heap.size+1+1,4,none⟩=some (.bool ds)∧W.cell? ⟨rb,ro+k,none⟩=some (.slice (some ⟨xb,xo,none⟩) n2 rp)∧W.cell? ⟨xb,xo+jj,none⟩=some (.string y)∧W.cell? ⟨rb,ro+m,none⟩=some (.slice (some ⟨pb,po,none⟩) n2 pp)∧W.cell? ⟨pb,po+jj,none⟩=some (.string z))
               (first | exact HS29.out _ (Below.refl _ _).drew | go_keep)
               (fail)
              all_goals
               go_wp2_with fail
               go_meet
               case rel=>exact⟨rfl,(Below.refl _ _).drew⟩
             case rest=>as_aux_lemma =>
             obtain⟨rfl,HBA⟩:=hcut;go_wp2_with fail;go_roundw;case rel=>exact⟨jj+1,by omega,by go_num,HB9.out.later HBA.out⟩
             case measure=>simp[intOf];omega
            subst hxo;have HOJ2:=zh (HOJ.out rfl)
            go_upto_region 28 with fail
            go_cut [146] (fun v wx=>v=.bool false∧Hid (Below W9.heap.size W9 wx))
            case first=>as_aux_lemma =>
             clear x0 x1 x2 x3 x4 x5 x6 x7 x8 x9 x10;obtain⟨z0,z1,z2,z3,z4,z5,z6,z7⟩:=HS29.out _ (Below.refl _ _);have hb3:(!x.toList==x.toList)=false:=by rw[beq_self_eq_true];rfl
             go_region_held3 (fun W=>W.cell? ⟨w1.heap.size+1,2,none⟩=some (.slice (some ⟨cb,co,none⟩) n2 p2)∧W.cell? ⟨cb,co+jj,none⟩=some (.string x)∧W.cell? ⟨w1.heap.size+1+1,3,none⟩=some (.string x)∧W.cell? ⟨w1.heap.size+1+1,4,none⟩=some (.bool ds)∧W.cell? ⟨rb,ro+k,none⟩=some (.slice (some ⟨xb,xo,none⟩) n2 rp)∧W.cell? ⟨xb,xo+jj,none⟩=some (.string y)∧W.cell? ⟨rb,ro+m,none⟩=some (.slice (some ⟨pb,po,none⟩) n2 pp)∧W.cell? ⟨pb,po+jj,none⟩=some (.string z))
              (first | exact HS29.out _ (Below.refl _ _).drew | go_keep)
              (fail)
             all_goals
              go_wp2_with fail
              go_meet
              case rel=>exact⟨rfl,(Below.refl _ _).drew⟩
            case rest=>as_aux_lemma =>
            obtain⟨rfl,HBA⟩:=hcut;obtain⟨WA,rfl⟩:∃WA,WA=wc:=⟨wc,rfl⟩;clear x0 x1 x2 x3 x4 x5 x6 x7 x8 x9 x10;have HSA:Hid (∀W,Below WA.heap.size WA W→(W.cell? ⟨w1.heap.size+1,2,none⟩=some (.slice (some ⟨cb,co,none⟩) n2 p2)∧W.cell? ⟨cb,co+jj,none⟩=some (.string x)∧W.cell? ⟨w1.heap.size+1+1,3,none⟩=some (.string x)∧W.cell? ⟨w1.heap.size+1+1,4,none⟩=some (.bool ds)∧W.cell? ⟨rb,ro+k,none⟩=some (.slice (some ⟨xb,xo,none⟩) n2 rp)∧W.cell? ⟨xb,xo+jj,none⟩=some (.string y)∧W.cell? ⟨rb,ro+m,none⟩=some (.slice (some ⟨pb,po,none⟩) n2 pp)∧W.cell? ⟨pb,po+jj,none⟩=some (.string z))):=fun W hW=>HS29.out W (HBA.out.later hW);clear HS29
            go_upto_region 29 with fail
            go_cut [193] (fun v wx=>v=.bool false∧Hid (Below WA.heap.size WA wx))
            case first=>as_aux_lemma =>
             obtain⟨z0,z1,z2,z3,z4,z5,z6,z7⟩:=HSA.out _ (Below.refl _ _);have hmli:(m:Int)<(L.length:Int):=by omega
             have hwm:IntKind.i64.wrap (m:Int)=(m:Int):=by rw[IntKind.wrap_i64];omega
             cases ds
             · have hbf:yB y z=false:=by have:=HOJ2.out;simpa using this
               rw[hbf]at HKB2;clear HKB1 hbf;refine uL (S:=fun W=>W.cell? ⟨w1.heap.size+1,2,none⟩=some (.slice (some ⟨cb,co,none⟩) n2 p2)∧W.cell? ⟨cb,co+jj,none⟩=some (.string x)∧W.cell? ⟨w1.heap.size+1+1,3,none⟩=some (.string x)∧W.cell? ⟨w1.heap.size+1+1,4,none⟩=some (.bool false)∧W.cell? ⟨rb,ro+k,none⟩=some (.slice (some ⟨xb,xo,none⟩) n2 rp)∧W.cell? ⟨xb,xo+jj,none⟩=some (.string y)∧W.cell? ⟨rb,ro+m,none⟩=some (.slice (some ⟨pb,po,none⟩) n2 pp)∧W.cell? ⟨pb,po+jj,none⟩=some (.string z)) 46 (by kernel_rfl) ?hSbf (fun hHeld=>?rgbf);case hSbf=>exact HSA.out _ (Below.refl _ _).drew
               refine yA (i:=0) (v:=?bfva1) [22,20,2,1] (by kernel_rfl) rfl (by kernel_rfl) (by kernel_rfl) (by kernel_rfl) (fun _ _ _ h=>h) (Or.inl ⟨by rfl,?bfhy2⟩) (by assumption) ?bfre3;case bfhy2=>intro w hSw;(try dsimp only at hSw);obtain⟨s0,s1,s2,s3,s4,s5,s6,s7⟩:=hSw;go_simp;(try with_reducible rfl)
               try simp only[Act.put,zA,zB,zC,zD,zF]
               refine yA (i:=1) (v:=?bfva4) [22,20,2] (by kernel_rfl) rfl (by kernel_rfl) (by kernel_rfl) (by kernel_rfl) (fun _ _ _ h=>h) (Or.inl ⟨by rfl,?bfhy5⟩) (by assumption) ?bfre6;case bfhy5=>intro w hSw;(try dsimp only at hSw);obtain⟨s0,s1,s2,s3,s4,s5,s6,s7⟩:=hSw;go_simp;(try with_reducible rfl)
               try simp only[Act.put,zA,zB,zC,zD,zE,zF]
               refine yA (i:=2) (v:=?bfva7) [22,20] (by kernel_rfl) rfl (by kernel_rfl) (by kernel_rfl) (by kernel_rfl) (fun _ _ _ h=>h) (Or.inl ⟨by rfl,?bfhy8⟩) (by assumption) ?bfre9;case bfhy8=>intro w hSw;(try dsimp only at hSw);obtain⟨s0,s1,s2,s3,s4,s5,s6,s7⟩:=hSw;go_simp;(try with_reducible rfl)
               try simp only[Act.put,zA,zB,zC,zD,zE,zF]
               refine yA (i:=3) (v:=undef) [22,20,11,10,8,7,6] (by kernel_rfl) rfl (by kernel_rfl) (by kernel_rfl) (by kernel_rfl) (fun _ _ _ h=>h) (Or.inr ⟨by rfl,rfl⟩) (by assumption) ?bfre10;try simp only[Act.put,zA,zB,zC,zD,zE,zF]
               refine yA (i:=4) (v:=undef) [22,20,11,10,8,7,6,5] (by kernel_rfl) rfl (by kernel_rfl) (by kernel_rfl) (by kernel_rfl) (fun _ _ _ h=>h) (Or.inr ⟨by rfl,rfl⟩) (by assumption) ?bfre11;try simp only[Act.put,zA,zB,zC,zD,zE,zF]
               refine yA (i:=5) (v:=undef) [22,20,11,10,8,7,6] (by kernel_rfl) rfl (by kernel_rfl) (by kernel_rfl) (by kernel_rfl) (fun _ _ _ h=>h) (Or.inr ⟨by rfl,rfl⟩) (by assumption) ?bfre12;try simp only[Act.put,zA,zB,zC,zD,zE,zF]
               refine yA (i:=6) (v:=undef) [22,20,11,10,8,7] (by kernel_rfl) rfl (by kernel_rfl) (by kernel_rfl) (by kernel_rfl) (fun _ _ _ h=>h) (Or.inr ⟨by rfl,rfl⟩) (by assumption) ?bfre13;try simp only[Act.put,zA,zB,zC,zD,zE,zF]
               refine yA (i:=7) (v:=undef) [22,20,11,10,8] (by kernel_rfl) rfl (by kernel_rfl) (by kernel_rfl) (by kernel_rfl) (fun _ _ _ h=>h) (Or.inr ⟨by rfl,rfl⟩) (by assumption) ?bfre14;try simp only[Act.put,zA,zB,zC,zD,zE,zF]
               refine yA (i:=8) (v:=undef) [22,20,11,10] (by kernel_rfl) rfl (by kernel_rfl) (by kernel_rfl) (by kernel_rfl) (fun _ _ _ h=>h) (Or.inr ⟨by rfl,rfl⟩) (by assumption) ?bfre15;try simp only[Act.put,zA,zB,zC,zD,zE,zF]
               refine yA (i:=9) (v:=undef) [22,20,11,10] (by kernel_rfl) rfl (by kernel_rfl) (by kernel_rfl) (by kernel_rfl) (fun _ _ _ h=>h) (Or.inr ⟨by rfl,rfl⟩) (by assumption) ?bfre16;try simp only[Act.put,zA,zB,zC,zD,zE,zF]
               refine yA (i:=10) (v:=undef) [22,20,11] (by kernel_rfl) rfl (by kernel_rfl) (by kernel_rfl) (by kernel_rfl) (fun _ _ _ h=>h) (Or.inr ⟨by rfl,rfl⟩) (by assumption) ?bfre17;try simp only[Act.put,zA,zB,zC,zD,zE,zF]
               refine yA (i:=11) (v:=undef) [22,20] (by kernel_rfl) rfl (by kernel_rfl) (by kernel_rfl) (by kernel_rfl) (fun _ _ _ h=>h) (Or.inr ⟨by rfl,rfl⟩) (by assumption) ?bfre18;try simp only[Act.put,zA,zB,zC,zD,zE,zF]
               refine yA (i:=12) (v:=undef) [22,20,19,18,16,15,14] (by kernel_rfl) rfl (by kernel_rfl) (by kernel_rfl) (by kernel_rfl) (fun _ _ _ h=>h) (Or.inr ⟨by rfl,rfl⟩) (by assumption) ?bfre19;try simp only[Act.put,zA,zB,zC,zD,zE,zF]
               refine yA (i:=13) (v:=undef) [22,20,19,18,16,15,14] (by kernel_rfl) rfl (by kernel_rfl) (by kernel_rfl) (by kernel_rfl) (fun _ _ _ h=>h) (Or.inr ⟨by rfl,rfl⟩) (by assumption) ?bfre20;try simp only[Act.put,zA,zB,zC,zD,zE,zF]
               refine yA (i:=14) (v:=undef) [22,20,19,18,16,15] (by kernel_rfl) rfl (by kernel_rfl) (by kernel_rfl) (by kernel_rfl) (fun _ _ _ h=>h) (Or.inr ⟨by rfl,rfl⟩) (by assumption) ?bfre21;try simp only[Act.put,zA,zB,zC,zD,zE,zF]
               refine yA (i:=15) (v:=undef) [22,20,19,18,16] (by kernel_rfl) rfl (by kernel_rfl) (by kernel_rfl) (by kernel_rfl) (fun _ _ _ h=>h) (Or.inr ⟨by rfl,rfl⟩) (by assumption) ?bfre22;try simp only[Act.put,zA,zB,zC,zD,zE,zF]
               refine yA (i:=16) (v:=undef) [22,20,19,18] (by kernel_rfl) rfl (by kernel_rfl) (by kernel_rfl) (by kernel_rfl) (fun _ _ _ h=>h) (Or.inr ⟨by rfl,rfl⟩) (by assumption) ?bfre23;try simp only[Act.put,zA,zB,zC,zD,zE,zF]
               refine yA (i:=17) (v:=undef) [22,20,19,18] (by kernel_rfl) rfl (by kernel_rfl) (by kernel_rfl) (by kernel_rfl) (fun _ _ _ h=>h) (Or.inr ⟨by rfl,rfl⟩) (by assumption) ?bfre24;try simp only[Act.put,zA,zB,zC,zD,zE,zF]
               refine yA (i:=18) (v:=undef) [22,20,19] (by kernel_rfl) rfl (by kernel_rfl) (by kernel_rfl) (by kernel_rfl) (fun _ _ _ h=>h) (Or.inr ⟨by rfl,rfl⟩) (by assumption) ?bfre25;try simp only[Act.put,zA,zB,zC,zD,zE,zF]
               refine yA (i:=19) (v:=undef) [22,20] (by kernel_rfl) rfl (by kernel_rfl) (by kernel_rfl) (by kernel_rfl) (fun _ _ _ h=>h) (Or.inr ⟨by rfl,rfl⟩) (by assumption) ?bfre26;try simp only[Act.put,zA,zB,zC,zD,zE,zF]
               refine yA (i:=20) (v:=undef) [22] (by kernel_rfl) rfl (by kernel_rfl) (by kernel_rfl) (by kernel_rfl) (fun _ _ _ h=>h) (Or.inr ⟨by rfl,rfl⟩) (by assumption) ?bfre27;try simp only[Act.put,zA,zB,zC,zD,zE,zF]
               refine yA (i:=21) (v:=?bfva28) [22] (by kernel_rfl) rfl (by kernel_rfl) (by kernel_rfl) (by kernel_rfl) (fun _ _ _ h=>h) (Or.inl ⟨by rfl,?bfhy29⟩) (by assumption) ?bfre30;case bfhy29=>intro w hSw;(try dsimp only at hSw);obtain⟨s0,s1,s2,s3,s4,s5,s6,s7⟩:=hSw;go_simp;(try with_reducible rfl)
               try simp only[Act.put,zA,zB,zC,zD,zE,zF]
               refine yA (i:=22) (v:=?bfva31) [] (by kernel_rfl) rfl (by kernel_rfl) (by kernel_rfl) (by kernel_rfl) (fun _ _ _ h=>h) (Or.inl ⟨by rfl,?bfhy32⟩) (by assumption) ?bfre33;case bfhy32=>intro w hSw;(try dsimp only at hSw);obtain⟨s0,s1,s2,s3,s4,s5,s6,s7⟩:=hSw;go_simp;(try with_reducible rfl)
               try simp only[Act.put,zA,zB,zC,zD,zE,zF]
               refine yA (i:=23) (v:=?bfva34) [45,26,25,24] (by kernel_rfl) rfl (by kernel_rfl) (by kernel_rfl) (by kernel_rfl) (fun _ _ _ h=>h) (Or.inl ⟨by rfl,?bfhy35⟩) (by assumption) ?bfre36;case bfhy35=>intro w hSw;(try dsimp only at hSw);obtain⟨s0,s1,s2,s3,s4,s5,s6,s7⟩:=hSw;go_simp;(try with_reducible rfl)
               try simp only[Act.put,zA,zB,zC,zD,zE,zF]
               refine yA (i:=24) (v:=?bfva37) [45,26,25] (by kernel_rfl) rfl (by kernel_rfl) (by kernel_rfl) (by kernel_rfl) (fun _ _ _ h=>h) (Or.inl ⟨by rfl,?bfhy38⟩) (by assumption) ?bfre39;case bfhy38=>intro w hSw;(try dsimp only at hSw);obtain⟨s0,s1,s2,s3,s4,s5,s6,s7⟩:=hSw;go_simp;(try with_reducible rfl)
               try simp only[Act.put,zA,zB,zC,zD,zE,zF]
               refine yA (i:=25) (v:=?bfva40) [45,26] (by kernel_rfl) rfl (by kernel_rfl) (by kernel_rfl) (by kernel_rfl) (fun _ _ _ h=>h) (Or.inl ⟨by rfl,?bfhy41⟩) (by assumption) ?bfre42;case bfhy41=>intro w hSw;(try dsimp only at hSw);obtain⟨s0,s1,s2,s3,s4,s5,s6,s7⟩:=hSw;go_simp;(try with_reducible rfl)
               try simp only[Act.put,zA,zB,zC,zD,zE,zF]
               refine yA (i:=26) (v:=?bfva43) [45] (by kernel_rfl) rfl (by kernel_rfl) (by kernel_rfl) (by kernel_rfl) (fun _ _ _ h=>h) (Or.inl ⟨by rfl,?bfhy44⟩) (by assumption) ?bfre45;case bfhy44=>intro w hSw;(try dsimp only at hSw);obtain⟨s0,s1,s2,s3,s4,s5,s6,s7⟩:=hSw;go_simp;(try with_reducible rfl)
               try simp only[Act.put,zA,zB,zC,zD,zE,zF]
               refine yA (i:=27) (v:=?bfva46) [45,44,34,33,31,30,29] (by kernel_rfl) rfl (by kernel_rfl) (by kernel_rfl) (by kernel_rfl) (fun _ _ _ h=>h) (Or.inl ⟨by rfl,?bfhy47⟩) (by assumption) ?bfre48;case bfhy47=>intro w hSw;(try dsimp only at hSw);obtain⟨s0,s1,s2,s3,s4,s5,s6,s7⟩:=hSw;go_simp;(try with_reducible rfl)
               try simp only[Act.put,zA,zB,zC,zD,zE,zF]
               refine yA (i:=28) (v:=?bfva49) [45,44,34,33,31,30,29] (by kernel_rfl) rfl (by kernel_rfl) (by kernel_rfl) (by kernel_rfl) (fun _ _ _ h=>h) (Or.inl ⟨by rfl,?bfhy50⟩) (by assumption) ?bfre51;case bfhy50=>intro w hSw;(try dsimp only at hSw);obtain⟨s0,s1,s2,s3,s4,s5,s6,s7⟩:=hSw;go_simp;(try with_reducible rfl)
               try simp only[Act.put,zA,zB,zC,zD,zE,zF]
               refine yA (i:=29) (v:=?bfva52) [45,44,34,33,31,30] (by kernel_rfl) rfl (by kernel_rfl) (by kernel_rfl) (by kernel_rfl) (fun _ _ _ h=>h) (Or.inl ⟨by rfl,?bfhy53⟩) (by assumption) ?bfre54;case bfhy53=>intro w hSw;(try dsimp only at hSw);obtain⟨s0,s1,s2,s3,s4,s5,s6,s7⟩:=hSw;go_simp;(try with_reducible rfl)
               try simp only[Act.put,zA,zB,zC,zD,zE,zF]
               refine yA (i:=30) (v:=?bfva55) [45,44,34,33,31] (by kernel_rfl) rfl (by kernel_rfl) (by kernel_rfl) (by kernel_rfl) (fun _ _ _ h=>h) (Or.inl ⟨by rfl,?bfhy56⟩) (by assumption) ?bfre57;case bfhy56=>intro w hSw;(try dsimp only at hSw);obtain⟨s0,s1,s2,s3,s4,s5,s6,s7⟩:=hSw;go_simp;(try with_reducible rfl)
               try simp only[Act.put,zA,zB,zC,zD,zE,zF]
               refine yA (i:=31) (v:=?bfva58) [45,44,34,33] (by kernel_rfl) rfl (by kernel_rfl) (by kernel_rfl) (by kernel_rfl) (fun _ _ _ h=>h) (Or.inl ⟨by rfl,?bfhy59⟩) (by assumption) ?bfre60;case bfhy59=>intro w hSw;(try dsimp only at hSw);obtain⟨s0,s1,s2,s3,s4,s5,s6,s7⟩:=hSw;go_simp;(try with_reducible rfl)
               try simp only[Act.put,zA,zB,zC,zD,zE,zF]
               refine yA (i:=32) (v:=?bfva61) [45,44,34,33] (by kernel_rfl) rfl (by kernel_rfl) (by kernel_rfl) (by kernel_rfl) (fun _ _ _ h=>h) (Or.inl ⟨by rfl,?bfhy62⟩) (by assumption) ?bfre63;case bfhy62=>intro w hSw;(try dsimp only at hSw);obtain⟨s0,s1,s2,s3,s4,s5,s6,s7⟩:=hSw;go_simp;(try with_reducible rfl)
               try simp only[Act.put,zA,zB,zC,zD,zE,zF]
               refine yA (i:=33) (v:=?bfva64) [45,44,34] (by kernel_rfl) rfl (by kernel_rfl) (by kernel_rfl) (by kernel_rfl) (fun _ _ _ h=>h) (Or.inl ⟨by rfl,?bfhy65⟩) (by assumption) ?bfre66;case bfhy65=>intro w hSw;(try dsimp only at hSw);obtain⟨s0,s1,s2,s3,s4,s5,s6,s7⟩:=hSw;go_simp;(try with_reducible rfl)
               try simp only[Act.put,zA,zB,zC,zD,zE,zF]
               refine yA (i:=34) (v:=?bfva67) [45,44] (by kernel_rfl) rfl (by kernel_rfl) (by kernel_rfl) (by kernel_rfl) (fun _ _ _ h=>h) (Or.inl ⟨by rfl,?bfhy68⟩) (by assumption) ?bfre69;case bfhy68=>intro w hSw;(try dsimp only at hSw);obtain⟨s0,s1,s2,s3,s4,s5,s6,s7⟩:=hSw;go_simp;(try with_reducible rfl)
               try simp only[Act.put,zA,zB,zC,zD,zE,zF]
               refine yA (i:=35) (v:=?bfva70) [45,44,43,42,40,39,38] (by kernel_rfl) rfl (by kernel_rfl) (by kernel_rfl) (by kernel_rfl) (fun _ _ _ h=>h) (Or.inl ⟨by rfl,?bfhy71⟩) (by assumption) ?bfre72;case bfhy71=>intro w hSw;(try dsimp only at hSw);obtain⟨s0,s1,s2,s3,s4,s5,s6,s7⟩:=hSw;go_simp;(try with_reducible rfl)
               try simp only[Act.put,zA,zB,zC,zD,zE,zF]
               refine yA (i:=36) (v:=?bfva73) [45,44,43,42,40,39,38,37] (by kernel_rfl) rfl (by kernel_rfl) (by kernel_rfl) (by kernel_rfl) (fun _ _ _ h=>h) (Or.inl ⟨by rfl,?bfhy74⟩) (by assumption) ?bfre75;case bfhy74=>intro w hSw;(try dsimp only at hSw);obtain⟨s0,s1,s2,s3,s4,s5,s6,s7⟩:=hSw;go_simp;(try with_reducible rfl)
               try simp only[Act.put,zA,zB,zC,zD,zE,zF]
               refine yA (i:=37) (v:=?bfva76) [45,44,43,42,40,39,38] (by kernel_rfl) rfl (by kernel_rfl) (by kernel_rfl) (by kernel_rfl) (fun _ _ _ h=>h) (Or.inl ⟨by rfl,?bfhy77⟩) (by assumption) ?bfre78;case bfhy77=>intro w hSw;(try dsimp only at hSw);obtain⟨s0,s1,s2,s3,s4,s5,s6,s7⟩:=hSw;go_simp;(try with_reducible rfl)
               try simp only[Act.put,zA,zB,zC,zD,zE,zF]
               refine yA (i:=38) (v:=?bfva79) [45,44,43,42,40,39] (by kernel_rfl) rfl (by kernel_rfl) (by kernel_rfl) (by kernel_rfl) (fun _ _ _ h=>h) (Or.inl ⟨by rfl,?bfhy80⟩) (by assumption) ?bfre81;case bfhy80=>intro w hSw;(try dsimp only at hSw);obtain⟨s0,s1,s2,s3,s4,s5,s6,s7⟩:=hSw;go_simp;(try with_reducible rfl)
               try simp only[Act.put,zA,zB,zC,zD,zE,zF]
               refine yA (i:=39) (v:=?bfva82) [45,44,43,42,40] (by kernel_rfl) rfl (by kernel_rfl) (by kernel_rfl) (by kernel_rfl) (fun _ _ _ h=>h) (Or.inl ⟨by rfl,?bfhy83⟩) (by assumption) ?bfre84;case bfhy83=>intro w hSw;(try dsimp only at hSw);obtain⟨s0,s1,s2,s3,s4,s5,s6,s7⟩:=hSw;go_simp;(try with_reducible rfl)
               try simp only[Act.put,zA,zB,zC,zD,zE,zF]
               refine yA (i:=40) (v:=?bfva85) [45,44,43,42] (by kernel_rfl) rfl (by kernel_rfl) (by kernel_rfl) (by kernel_rfl) (fun _ _ _ h=>h) (Or.inl ⟨by rfl,?bfhy86⟩) (by assumption) ?bfre87;case bfhy86=>intro w hSw;(try dsimp only at hSw);obtain⟨s0,s1,s2,s3,s4,s5,s6,s7⟩:=hSw;go_simp;(try with_reducible rfl)
               try simp only[Act.put,zA,zB,zC,zD,zE,zF]
               refine yA (i:=41) (v:=?bfva88) [45,44,43,42] (by kernel_rfl) rfl (by kernel_rfl) (by kernel_rfl) (by kernel_rfl) (fun _ _ _ h=>h) (Or.inl ⟨by rfl,?bfhy89⟩) (by assumption) ?bfre90;case bfhy89=>intro w hSw;(try dsimp only at hSw);obtain⟨s0,s1,s2,s3,s4,s5,s6,s7⟩:=hSw;go_simp;(try with_reducible rfl)
               try simp only[Act.put,zA,zB,zC,zD,zE,zF]
               refine yA (i:=42) (v:=?bfva91) [45,44,43] (by kernel_rfl) rfl (by kernel_rfl) (by kernel_rfl) (by kernel_rfl) (fun _ _ _ h=>h) (Or.inl ⟨by rfl,?bfhy92⟩) (by assumption) ?bfre93;case bfhy92=>intro w hSw;(try dsimp only at hSw);obtain⟨s0,s1,s2,s3,s4,s5,s6,s7⟩:=hSw;go_simp;(try with_reducible rfl)
               try simp only[Act.put,zA,zB,zC,zD,zE,zF]
               refine yA (i:=43) (v:=?bfva94) [45,44] (by kernel_rfl) rfl (by kernel_rfl) (by kernel_rfl) (by kernel_rfl) (fun _ _ _ h=>h) (Or.inl ⟨by rfl,?bfhy95⟩) (by assumption) ?bfre96;case bfhy95=>intro w hSw;(try dsimp only at hSw);obtain⟨s0,s1,s2,s3,s4,s5,s6,s7⟩:=hSw;go_simp;(try with_reducible rfl)
               try simp only[Act.put,zA,zB,zC,zD,zE,zF]
               refine wA (rs:=[44]) (by kernel_rfl) (by simp) ?_;refine AllReadyE.cons rfl (fun KW hK=>?bfst97) AllReadyE.nil;go_simp;refine(HKB2.out _).mono ?_;rintro e wb ⟨rfl,hbb⟩;have Hb:Hid (Below WA.heap.size WA wb):=((Below.refl _ _).drew).later hbb;clear hbb;try go_wp2_with fail
               refine hK.out _ _ (fun _=>?bfke98) (fun hHeld'=>?bfrs99);case bfke98=>exact HSA.out _ Hb.out
               have hHeld:=hHeld' (by decide);clear hHeld';clear hK KW;try simp only[Act.put,zA,zB,zC,zD,zE,zF]
               refine yA (i:=45) (v:=?bfva100) [] (by kernel_rfl) rfl (by kernel_rfl) (by kernel_rfl) (by kernel_rfl) (fun _ _ _ h=>h) (Or.inl ⟨by rfl,?bfhy101⟩) (by assumption) ?bfre102;case bfhy101=>intro w hSw;(try dsimp only at hSw);obtain⟨s0,s1,s2,s3,s4,s5,s6,s7⟩:=hSw;go_simp;(try with_reducible rfl)
               try simp only[Act.put,zA,zB,zC,zD,zE,zF]
               refine wA (rs:=[46]) (by kernel_rfl) (by simp) ?_;refine AllReadyE.cons rfl (fun KW hK=>?bfst103) AllReadyE.nil;go_simp;refine hK.out _ _ (fun h=>absurd rfl h) (fun hHeld=>?bfrs105);clear hK KW;try simp only[Act.put,zA,zB,zC,zD,zE,zF]
               refine yM (by kernel_rfl) ?_ _;go_wp2_with fail
               go_meet
               case rel=>exact⟨rfl,Hb.out⟩
             · have hbf:yB z y=false:=by have:=HOJ2.out;simpa using this
               rw[hbf]at HKB1;clear HKB2 hbf;refine uL (S:=fun W=>W.cell? ⟨w1.heap.size+1,2,none⟩=some (.slice (some ⟨cb,co,none⟩) n2 p2)∧W.cell? ⟨cb,co+jj,none⟩=some (.string x)∧W.cell? ⟨w1.heap.size+1+1,3,none⟩=some (.string x)∧W.cell? ⟨w1.heap.size+1+1,4,none⟩=some (.bool true)∧W.cell? ⟨rb,ro+k,none⟩=some (.slice (some ⟨xb,xo,none⟩) n2 rp)∧W.cell? ⟨xb,xo+jj,none⟩=some (.string y)∧W.cell? ⟨rb,ro+m,none⟩=some (.slice (some ⟨pb,po,none⟩) n2 pp)∧W.cell? ⟨pb,po+jj,none⟩=some (.string z)) 46 (by kernel_rfl) ?hSbt (fun hHeld=>?rgbt);case hSbt=>exact HSA.out _ (Below.refl _ _).drew
               refine yA (i:=0) (v:=?btva1) [22,20,2,1] (by kernel_rfl) rfl (by kernel_rfl) (by kernel_rfl) (by kernel_rfl) (fun _ _ _ h=>h) (Or.inl ⟨by rfl,?bthy2⟩) (by assumption) ?btre3;case bthy2=>intro w hSw;(try dsimp only at hSw);obtain⟨s0,s1,s2,s3,s4,s5,s6,s7⟩:=hSw;go_simp;(try with_reducible rfl)
               try simp only[Act.put,zA,zB,zC,zD,zF]
               refine yA (i:=1) (v:=?btva4) [22,20,2] (by kernel_rfl) rfl (by kernel_rfl) (by kernel_rfl) (by kernel_rfl) (fun _ _ _ h=>h) (Or.inl ⟨by rfl,?bthy5⟩) (by assumption) ?btre6;case bthy5=>intro w hSw;(try dsimp only at hSw);obtain⟨s0,s1,s2,s3,s4,s5,s6,s7⟩:=hSw;go_simp;(try with_reducible rfl)
               try simp only[Act.put,zA,zB,zC,zD,zE,zF]
               refine yA (i:=2) (v:=?btva7) [22,20] (by kernel_rfl) rfl (by kernel_rfl) (by kernel_rfl) (by kernel_rfl) (fun _ _ _ h=>h) (Or.inl ⟨by rfl,?bthy8⟩) (by assumption) ?btre9;case bthy8=>intro w hSw;(try dsimp only at hSw);obtain⟨s0,s1,s2,s3,s4,s5,s6,s7⟩:=hSw;go_simp;(try with_reducible rfl)
               try simp only[Act.put,zA,zB,zC,zD,zE,zF]
               refine yA (i:=3) (v:=?btva10) [22,20,11,10,8,7,6] (by kernel_rfl) rfl (by kernel_rfl) (by kernel_rfl) (by kernel_rfl) (fun _ _ _ h=>h) (Or.inl ⟨by rfl,?bthy11⟩) (by assumption) ?btre12;case bthy11=>intro w hSw;(try dsimp only at hSw);obtain⟨s0,s1,s2,s3,s4,s5,s6,s7⟩:=hSw;go_simp;(try with_reducible rfl)
               try simp only[Act.put,zA,zB,zC,zD,zE,zF]
               refine yA (i:=4) (v:=?btva13) [22,20,11,10,8,7,6,5] (by kernel_rfl) rfl (by kernel_rfl) (by kernel_rfl) (by kernel_rfl) (fun _ _ _ h=>h) (Or.inl ⟨by rfl,?bthy14⟩) (by assumption) ?btre15;case bthy14=>intro w hSw;(try dsimp only at hSw);obtain⟨s0,s1,s2,s3,s4,s5,s6,s7⟩:=hSw;go_simp;(try with_reducible rfl)
               try simp only[Act.put,zA,zB,zC,zD,zE,zF]
               refine yA (i:=5) (v:=?btva16) [22,20,11,10,8,7,6] (by kernel_rfl) rfl (by kernel_rfl) (by kernel_rfl) (by kernel_rfl) (fun _ _ _ h=>h) (Or.inl ⟨by rfl,?bthy17⟩) (by assumption) ?btre18;case bthy17=>intro w hSw;(try dsimp only at hSw);obtain⟨s0,s1,s2,s3,s4,s5,s6,s7⟩:=hSw;go_simp;(try with_reducible rfl)
               try simp only[Act.put,zA,zB,zC,zD,zE,zF]
               refine yA (i:=6) (v:=?btva19) [22,20,11,10,8,7] (by kernel_rfl) rfl (by kernel_rfl) (by kernel_rfl) (by kernel_rfl) (fun _ _ _ h=>h) (Or.inl ⟨by rfl,?bthy20⟩) (by assumption) ?btre21;case bthy20=>intro w hSw;(try dsimp only at hSw);obtain⟨s0,s1,s2,s3,s4,s5,s6,s7⟩:=hSw;go_simp;(try with_reducible rfl)
               try simp only[Act.put,zA,zB,zC,zD,zE,zF]
               refine yA (i:=7) (v:=?btva22) [22,20,11,10,8] (by kernel_rfl) rfl (by kernel_rfl) (by kernel_rfl) (by kernel_rfl) (fun _ _ _ h=>h) (Or.inl ⟨by rfl,?bthy23⟩) (by assumption) ?btre24;case bthy23=>intro w hSw;(try dsimp only at hSw);obtain⟨s0,s1,s2,s3,s4,s5,s6,s7⟩:=hSw;go_simp;(try with_reducible rfl)
               try simp only[Act.put,zA,zB,zC,zD,zE,zF]
               refine yA (i:=8) (v:=?btva25) [22,20,11,10] (by kernel_rfl) rfl (by kernel_rfl) (by kernel_rfl) (by kernel_rfl) (fun _ _ _ h=>h) (Or.inl ⟨by rfl,?bthy26⟩) (by assumption) ?btre27;case bthy26=>intro w hSw;(try dsimp only at hSw);obtain⟨s0,s1,s2,s3,s4,s5,s6,s7⟩:=hSw;go_simp;(try with_reducible rfl)
               try simp only[Act.put,zA,zB,zC,zD,zE,zF]
               refine yA (i:=9) (v:=?btva28) [22,20,11,10] (by kernel_rfl) rfl (by kernel_rfl) (by kernel_rfl) (by kernel_rfl) (fun _ _ _ h=>h) (Or.inl ⟨by rfl,?bthy29⟩) (by assumption) ?btre30;case bthy29=>intro w hSw;(try dsimp only at hSw);obtain⟨s0,s1,s2,s3,s4,s5,s6,s7⟩:=hSw;go_simp;(try with_reducible rfl)
               try simp only[Act.put,zA,zB,zC,zD,zE,zF]
               refine yA (i:=10) (v:=?btva31) [22,20,11] (by kernel_rfl) rfl (by kernel_rfl) (by kernel_rfl) (by kernel_rfl) (fun _ _ _ h=>h) (Or.inl ⟨by rfl,?bthy32⟩) (by assumption) ?btre33;case bthy32=>intro w hSw;(try dsimp only at hSw);obtain⟨s0,s1,s2,s3,s4,s5,s6,s7⟩:=hSw;go_simp;(try with_reducible rfl)
               try simp only[Act.put,zA,zB,zC,zD,zE,zF]
               refine yA (i:=11) (v:=?btva34) [22,20] (by kernel_rfl) rfl (by kernel_rfl) (by kernel_rfl) (by kernel_rfl) (fun _ _ _ h=>h) (Or.inl ⟨by rfl,?bthy35⟩) (by assumption) ?btre36;case bthy35=>intro w hSw;(try dsimp only at hSw);obtain⟨s0,s1,s2,s3,s4,s5,s6,s7⟩:=hSw;go_simp;(try with_reducible rfl)
               try simp only[Act.put,zA,zB,zC,zD,zE,zF]
               refine yA (i:=12) (v:=?btva37) [22,20,19,18,16,15,14] (by kernel_rfl) rfl (by kernel_rfl) (by kernel_rfl) (by kernel_rfl) (fun _ _ _ h=>h) (Or.inl ⟨by rfl,?bthy38⟩) (by assumption) ?btre39;case bthy38=>intro w hSw;(try dsimp only at hSw);obtain⟨s0,s1,s2,s3,s4,s5,s6,s7⟩:=hSw;go_simp;(try with_reducible rfl)
               try simp only[Act.put,zA,zB,zC,zD,zE,zF]
               refine yA (i:=13) (v:=?btva40) [22,20,19,18,16,15,14] (by kernel_rfl) rfl (by kernel_rfl) (by kernel_rfl) (by kernel_rfl) (fun _ _ _ h=>h) (Or.inl ⟨by rfl,?bthy41⟩) (by assumption) ?btre42;case bthy41=>intro w hSw;(try dsimp only at hSw);obtain⟨s0,s1,s2,s3,s4,s5,s6,s7⟩:=hSw;go_simp;(try with_reducible rfl)
               try simp only[Act.put,zA,zB,zC,zD,zE,zF]
               refine yA (i:=14) (v:=?btva43) [22,20,19,18,16,15] (by kernel_rfl) rfl (by kernel_rfl) (by kernel_rfl) (by kernel_rfl) (fun _ _ _ h=>h) (Or.inl ⟨by rfl,?bthy44⟩) (by assumption) ?btre45;case bthy44=>intro w hSw;(try dsimp only at hSw);obtain⟨s0,s1,s2,s3,s4,s5,s6,s7⟩:=hSw;go_simp;(try with_reducible rfl)
               try simp only[Act.put,zA,zB,zC,zD,zE,zF]
               refine yA (i:=15) (v:=?btva46) [22,20,19,18,16] (by kernel_rfl) rfl (by kernel_rfl) (by kernel_rfl) (by kernel_rfl) (fun _ _ _ h=>h) (Or.inl ⟨by rfl,?bthy47⟩) (by assumption) ?btre48;case bthy47=>intro w hSw;(try dsimp only at hSw);obtain⟨s0,s1,s2,s3,s4,s5,s6,s7⟩:=hSw;go_simp;(try with_reducible rfl)
               try simp only[Act.put,zA,zB,zC,zD,zE,zF]
               refine yA (i:=16) (v:=?btva49) [22,20,19,18] (by kernel_rfl) rfl (by kernel_rfl) (by kernel_rfl) (by kernel_rfl) (fun _ _ _ h=>h) (Or.inl ⟨by rfl,?bthy50⟩) (by assumption) ?btre51;case bthy50=>intro w hSw;(try dsimp only at hSw);obtain⟨s0,s1,s2,s3,s4,s5,s6,s7⟩:=hSw;go_simp;(try with_reducible rfl)
               try simp only[Act.put,zA,zB,zC,zD,zE,zF]
               refine yA (i:=17) (v:=?btva52) [22,20,19,18] (by kernel_rfl) rfl (by kernel_rfl) (by kernel_rfl) (by kernel_rfl) (fun _ _ _ h=>h) (Or.inl ⟨by rfl,?bthy53⟩) (by assumption) ?btre54;case bthy53=>intro w hSw;(try dsimp only at hSw);obtain⟨s0,s1,s2,s3,s4,s5,s6,s7⟩:=hSw;go_simp;(try with_reducible rfl)
               try simp only[Act.put,zA,zB,zC,zD,zE,zF]
               refine yA (i:=18) (v:=?btva55) [22,20,19] (by kernel_rfl) rfl (by kernel_rfl) (by kernel_rfl) (by kernel_rfl) (fun _ _ _ h=>h) (Or.inl ⟨by rfl,?bthy56⟩) (by assumption) ?btre57;case bthy56=>intro w hSw;(try dsimp only at hSw);obtain⟨s0,s1,s2,s3,s4,s5,s6,s7⟩:=hSw;go_simp;(try with_reducible rfl)
               try simp only[Act.put,zA,zB,zC,zD,zE,zF]
               refine yA (i:=19) (v:=?btva58) [22,20] (by kernel_rfl) rfl (by kernel_rfl) (by kernel_rfl) (by kernel_rfl) (fun _ _ _ h=>h) (Or.inl ⟨by rfl,?bthy59⟩) (by assumption) ?btre60;case bthy59=>intro w hSw;(try dsimp only at hSw);obtain⟨s0,s1,s2,s3,s4,s5,s6,s7⟩:=hSw;go_simp;(try with_reducible rfl)
               try simp only[Act.put,zA,zB,zC,zD,zE,zF]
               refine wA (rs:=[20]) (by kernel_rfl) (by simp) ?_;refine AllReadyE.cons rfl (fun KW hK=>?btst61) AllReadyE.nil;go_simp;refine(HKB1.out _).mono ?_;rintro e wb ⟨rfl,hbb⟩;have Hb:Hid (Below WA.heap.size WA wb):=((Below.refl _ _).drew).later hbb;clear hbb;try go_wp2_with fail
               refine hK.out _ _ (fun _=>?btke62) (fun hHeld'=>?btrs63);case btke62=>exact HSA.out _ Hb.out
               have hHeld:=hHeld' (by decide);clear hHeld';clear hK KW;try simp only[Act.put,zA,zB,zC,zD,zE,zF]
               refine yA (i:=21) (v:=?btva64) [22] (by kernel_rfl) rfl (by kernel_rfl) (by kernel_rfl) (by kernel_rfl) (fun _ _ _ h=>h) (Or.inl ⟨by rfl,?bthy65⟩) (by assumption) ?btre66;case bthy65=>intro w hSw;(try dsimp only at hSw);obtain⟨s0,s1,s2,s3,s4,s5,s6,s7⟩:=hSw;go_simp;(try with_reducible rfl)
               try simp only[Act.put,zA,zB,zC,zD,zE,zF]
               refine yA (i:=22) (v:=?btva67) [] (by kernel_rfl) rfl (by kernel_rfl) (by kernel_rfl) (by kernel_rfl) (fun _ _ _ h=>h) (Or.inl ⟨by rfl,?bthy68⟩) (by assumption) ?btre69;case bthy68=>intro w hSw;(try dsimp only at hSw);obtain⟨s0,s1,s2,s3,s4,s5,s6,s7⟩:=hSw;go_simp;(try with_reducible rfl)
               try simp only[Act.put,zA,zB,zC,zD,zE,zF]
               refine yA (i:=23) (v:=?btva70) [45,26,25,24] (by kernel_rfl) rfl (by kernel_rfl) (by kernel_rfl) (by kernel_rfl) (fun _ _ _ h=>h) (Or.inl ⟨by rfl,?bthy71⟩) (by assumption) ?btre72;case bthy71=>intro w hSw;(try dsimp only at hSw);obtain⟨s0,s1,s2,s3,s4,s5,s6,s7⟩:=hSw;go_simp;(try with_reducible rfl)
               try simp only[Act.put,zA,zB,zC,zD,zE,zF]
               refine yA (i:=24) (v:=?btva73) [45,26,25] (by kernel_rfl) rfl (by kernel_rfl) (by kernel_rfl) (by kernel_rfl) (fun _ _ _ h=>h) (Or.inl ⟨by rfl,?bthy74⟩) (by assumption) ?btre75;case bthy74=>intro w hSw;(try dsimp only at hSw);obtain⟨s0,s1,s2,s3,s4,s5,s6,s7⟩:=hSw;go_simp;(try with_reducible rfl)
               try simp only[Act.put,zA,zB,zC,zD,zE,zF]
               refine yA (i:=25) (v:=?btva76) [45,26] (by kernel_rfl) rfl (by kernel_rfl) (by kernel_rfl) (by kernel_rfl) (fun _ _ _ h=>h) (Or.inl ⟨by rfl,?bthy77⟩) (by assumption) ?btre78;case bthy77=>intro w hSw;(try dsimp only at hSw);obtain⟨s0,s1,s2,s3,s4,s5,s6,s7⟩:=hSw;go_simp;(try with_reducible rfl)
               try simp only[Act.put,zA,zB,zC,zD,zE,zF]
               refine yA (i:=26) (v:=?btva79) [45] (by kernel_rfl) rfl (by kernel_rfl) (by kernel_rfl) (by kernel_rfl) (fun _ _ _ h=>h) (Or.inl ⟨by rfl,?bthy80⟩) (by assumption) ?btre81;case bthy80=>intro w hSw;(try dsimp only at hSw);obtain⟨s0,s1,s2,s3,s4,s5,s6,s7⟩:=hSw;go_simp;(try with_reducible rfl)
               try simp only[Act.put,zA,zB,zC,zD,zE,zF]
               refine yA (i:=27) (v:=undef) [45,44,34,33,31,30,29] (by kernel_rfl) rfl (by kernel_rfl) (by kernel_rfl) (by kernel_rfl) (fun _ _ _ h=>h) (Or.inr ⟨by rfl,rfl⟩) (by assumption) ?btre82;try simp only[Act.put,zA,zB,zC,zD,zE,zF]
               refine yA (i:=28) (v:=undef) [45,44,34,33,31,30,29] (by kernel_rfl) rfl (by kernel_rfl) (by kernel_rfl) (by kernel_rfl) (fun _ _ _ h=>h) (Or.inr ⟨by rfl,rfl⟩) (by assumption) ?btre83;try simp only[Act.put,zA,zB,zC,zD,zE,zF]
               refine yA (i:=29) (v:=undef) [45,44,34,33,31,30] (by kernel_rfl) rfl (by kernel_rfl) (by kernel_rfl) (by kernel_rfl) (fun _ _ _ h=>h) (Or.inr ⟨by rfl,rfl⟩) (by assumption) ?btre84;try simp only[Act.put,zA,zB,zC,zD,zE,zF]
               refine yA (i:=30) (v:=undef) [45,44,34,33,31] (by kernel_rfl) rfl (by kernel_rfl) (by kernel_rfl) (by kernel_rfl) (fun _ _ _ h=>h) (Or.inr ⟨by rfl,rfl⟩) (by assumption) ?btre85;try simp only[Act.put,zA,zB,zC,zD,zE,zF]
               refine yA (i:=31) (v:=undef) [45,44,34,33] (by kernel_rfl) rfl (by kernel_rfl) (by kernel_rfl) (by kernel_rfl) (fun _ _ _ h=>h) (Or.inr ⟨by rfl,rfl⟩) (by assumption) ?btre86;try simp only[Act.put,zA,zB,zC,zD,zE,zF]
               refine yA (i:=32) (v:=undef) [45,44,34,33] (by kernel_rfl) rfl (by kernel_rfl) (by kernel_rfl) (by kernel_rfl) (fun _ _ _ h=>h) (Or.inr ⟨by rfl,rfl⟩) (by assumption) ?btre87;try simp only[Act.put,zA,zB,zC,zD,zE,zF]
               refine yA (i:=33) (v:=undef) [45,44,34] (by kernel_rfl) rfl (by kernel_rfl) (by kernel_rfl) (by kernel_rfl) (fun _ _ _ h=>h) (Or.inr ⟨by rfl,rfl⟩) (by assumption) ?btre88;try simp only[Act.put,zA,zB,zC,zD,zE,zF]
               refine yA (i:=34) (v:=undef) [45,44] (by kernel_rfl) rfl (by kernel_rfl) (by kernel_rfl) (by kernel_rfl) (fun _ _ _ h=>h) (Or.inr ⟨by rfl,rfl⟩) (by assumption) ?btre89;try simp only[Act.put,zA,zB,zC,zD,zE,zF]
               refine yA (i:=35) (v:=undef) [45,44,43,42,40,39,38] (by kernel_rfl) rfl (by kernel_rfl) (by kernel_rfl) (by kernel_rfl) (fun _ _ _ h=>h) (Or.inr ⟨by rfl,rfl⟩) (by assumption) ?btre90;try simp only[Act.put,zA,zB,zC,zD,zE,zF]
               refine yA (i:=36) (v:=undef) [45,44,43,42,40,39,38,37] (by kernel_rfl) rfl (by kernel_rfl) (by kernel_rfl) (by kernel_rfl) (fun _ _ _ h=>h) (Or.inr ⟨by rfl,rfl⟩) (by assumption) ?btre91;try simp only[Act.put,zA,zB,zC,zD,zE,zF]
               refine yA (i:=37) (v:=undef) [45,44,43,42,40,39,38] (by kernel_rfl) rfl (by kernel_rfl) (by kernel_rfl) (by kernel_rfl) (fun _ _ _ h=>h) (Or.inr ⟨by rfl,rfl⟩) (by assumption) ?btre92;try simp only[Act.put,zA,zB,zC,zD,zE,zF]
               refine yA (i:=38) (v:=undef) [45,44,43,42,40,39] (by kernel_rfl) rfl (by kernel_rfl) (by kernel_rfl) (by kernel_rfl) (fun _ _ _ h=>h) (Or.inr ⟨by rfl,rfl⟩) (by assumption) ?btre93;try simp only[Act.put,zA,zB,zC,zD,zE,zF]
               refine yA (i:=39) (v:=undef) [45,44,43,42,40] (by kernel_rfl) rfl (by kernel_rfl) (by kernel_rfl) (by kernel_rfl) (fun _ _ _ h=>h) (Or.inr ⟨by rfl,rfl⟩) (by assumption) ?btre94;try simp only[Act.put,zA,zB,zC,zD,zE,zF]
               refine yA (i:=40) (v:=undef) [45,44,43,42] (by kernel_rfl) rfl (by kernel_rfl) (by kernel_rfl) (by kernel_rfl) (fun _ _ _ h=>h) (Or.inr ⟨by rfl,rfl⟩) (by assumption) ?btre95;try simp only[Act.put,zA,zB,zC,zD,zE,zF]
               refine yA (i:=41) (v:=undef) [45,44,43,42] (by kernel_rfl) rfl (by kernel_rfl) (by kernel_rfl) (by kernel_rfl) (fun _ _ _ h=>h) (Or.inr ⟨by rfl,rfl⟩) (by assumption) ?btre96;try simp only[Act.put,zA,zB,zC,zD,zE,zF]
               refine yA (i:=42) (v:=undef) [45,44,43] (by kernel_rfl) rfl (by kernel_rfl) (by kernel_rfl) (by kernel_rfl) (fun _ _ _ h=>h) (Or.inr ⟨by rfl,rfl⟩) (by assumption) ?btre97;try simp only[Act.put,zA,zB,zC,zD,zE,zF]
               refine yA (i:=43) (v:=undef) [45,44] (by kernel_rfl) rfl (by kernel_rfl) (by kernel_rfl) (by kernel_rfl) (fun _ _ _ h=>h) (Or.inr ⟨by rfl,rfl⟩) (by assumption) ?btre98;try simp only[Act.put,zA,zB,zC,zD,zE,zF]
               refine yA (i:=44) (v:=undef) [45] (by kernel_rfl) rfl (by kernel_rfl) (by kernel_rfl) (by kernel_rfl) (fun _ _ _ h=>h) (Or.inr ⟨by rfl,rfl⟩) (by assumption) ?btre99;try simp only[Act.put,zA,zB,zC,zD,zE,zF]
               refine yA (i:=45) (v:=?btva100) [] (by kernel_rfl) rfl (by kernel_rfl) (by kernel_rfl) (by kernel_rfl) (fun _ _ _ h=>h) (Or.inl ⟨by rfl,?bthy101⟩) (by assumption) ?btre102;case bthy101=>intro w hSw;(try dsimp only at hSw);obtain⟨s0,s1,s2,s3,s4,s5,s6,s7⟩:=hSw;go_simp;(try with_reducible rfl)
               try simp only[Act.put,zA,zB,zC,zD,zE,zF]
               refine wA (rs:=[46]) (by kernel_rfl) (by simp) ?_;refine AllReadyE.cons rfl (fun KW hK=>?btst103) AllReadyE.nil;go_simp;refine hK.out _ _ (fun h=>absurd rfl h) (fun hHeld=>?btrs105);clear hK KW;try simp only[Act.put,zA,zB,zC,zD,zE,zF]
               refine yM (by kernel_rfl) ?_ _;go_wp2_with fail
               go_meet
               case rel=>exact⟨rfl,Hb.out⟩
            case rest=>as_aux_lemma =>
            obtain⟨rfl,HBC⟩:=hcut;go_wp2_with fail;go_roundw;case rel=>exact⟨jj+1,by omega,by go_num,HB9.out.later (HBA.out.later HBC.out)⟩
            case measure=>simp[intOf];omega
        · have hjni:¬((jj:Int)<(n2:Int)):=by omega
          go_wp2_with fail;go_roundw;case rel=>exact⟨k+1,by omega,by go_num,HB5.out.later HC9.out⟩
          case measure=>simp[intOf];omega
  · have hki:¬((k:Int)<(L.length:Int)):=by omega
    have HLI:=zh (HQI.out.lim);by_cases hl0:lm=0
    · have hb1:(lm==0)=true:=by rw[hl0];rfl
      subst hl0;go_wp2_with fail;go_ret;exact⟨zA0 (by first | rfl | simp),HBW.out.later HX5.out⟩
    · have hb1:(lm==0)=false:=beq_eq_false_iff_ne.2 hl0
      have hle:(L.length:Int)≤lm:=by
       rcases HLI.out with h | h
       · exact absurd h hl0
       · exact h
      go_wp2_with fail;go_ret;exact⟨zA0 (by first | rfl | simp[hle]),HBW.out.later HX5.out⟩
end Go.Proofs.YtfpcjhajjejpdaaGreatDoor
