import Derived.Test.YtgmaamnofhmecaaGreatDoorV34
import Derived.Test.YtgmaamnofhmecaaGreatDoorV31
import Derived.Test.YtgmaamnofhmecaaGreatDoorV32
import Derived.Test.YtgmaamnofhmecaaGreatDoorV16
import Derived.Test.YtgmaamnofhmecaaGreatDoorV26
import Derived.Test.YtgmaamnofhmecaaGreatDoorV23
import Derived.Test.YtgmaamnofhmecaaGreatDoorV25
set_option maxHeartbeats 16000000
open Go.Lib renaming hid → zh
namespace Go.Proofs.YtgmaamnofhmecaaGreatDoor
open Go.RowKit
set_option linter.unusedVariables false
set_option maxRecDepth 100000 in
theorem zDt (b0 b1 b2 b3:Value) (RA:Option Addr) (rcap:Nat) (b:TableD) (rs:List (List ByteArray)) (w:World) (hb:TableR w w.heap.size b0 b1 b2 b3 b) (hr:RowsRd w w.heap.size RA rs.length rs) (hbs:b.small) (htb:zF0 b=true) (hlen:rs.length≤24) (hall:∀r∈rs,vC b.cols r=true) :
 Calls Tryz.prog 68 #[.agg #[b0,b1,b2,b3],.slice RA rs.length rcap] w (xN (rs.flatMap (yG 1 b)) w):=by
 obtain⟨i0,hi0,hz0,hz1,hz2⟩:=info_parts uT;obtain⟨f1,f2,f3,f4,f5⟩:=vA htb;have HKX:Hid (∀q0 q,vC b.cols q=true→∀W (hW:Below w.heap.size w W),RowR W W.heap.size q0 q→Calls Tryz.prog 144 #[.agg #[b0,b1,b2,b3],.int .i64 1,.agg #[q0]] W (xN (yG 1 b q) W)):=fun q0 q h2 W hW hq=>by obtain⟨g1,g2⟩:=zCW h2;exact zEv b0 b1 b2 b3 q0 b q 1 W (hb.later hW) hq hbs (by omega) (fun x hx=>⟨by have:=f5 x hx;omega,by have:=(xJ b.cols x).2;have:=f5 x hx;omega⟩)
 have HTX:Hid (∀q,(yG 1 b q).length≤5):=fun q=>by have:=zCB b q;omega
 have HALL:=zh hall;have HRD:=zh hr;obtain⟨rfl,rfl,⟨A2,n2,p2,rfl,s2,k2⟩,⟨A3,n3,p3,rfl,s3,k3⟩⟩:=hb;clear s2 s3 hbs htb f1 f2 f3 f4 f5 hall hr;generalize yG 1 b=IX at *;generalize vC b.cols=RBB at *;generalize b.name=nm at *;generalize b.glob=gl at *;generalize hm:rs.length=m at *;have HM:=zh hm;clear hm;obtain⟨WB,hWB⟩:∃WB,WB=w.alloc (.cells #[.string nm,.string gl,.slice A2 n2 p2,.slice A3 n3 p3] 29):=⟨_,rfl⟩;have HX0:Hid (Blk WB w.heap.size 29 #[.string nm,.string gl,.slice A2 n2 p2,.slice A3 n3 p3]):=by subst hWB;exact heap_alloc_new _ _
 have HBB:Hid (Below w.heap.size w WB):=by subst hWB;exact Below.new _ _
 have HS1:Hid (∀W',Below WB.heap.size WB W'→(W'.cell? ⟨w.heap.size,0,none⟩=some (.string nm)∧W'.cell? ⟨w.heap.size,1,none⟩=some (.string gl)∧W'.cell? ⟨w.heap.size,2,none⟩=some (.slice A2 n2 p2)∧W'.cell? ⟨w.heap.size,3,none⟩=some (.slice A3 n3 p3))):=fun W' hW=>⟨(HX0.out.later hW HX0.out.lt).at 0 rfl,(HX0.out.later hW HX0.out.lt).at 1 rfl,(HX0.out.later hW HX0.out.lt).at 2 rfl,(HX0.out.later hW HX0.out.lt).at 3 rfl⟩;have hsz:WB.heap.size=w.heap.size+1:=by subst hWB;simp
 have HO1:Hid (ChgsO (WB.alloc (.cells #[] 88)) WB.heap.size (.slice (some ⟨w.heap.size+1,0,none⟩) 0 0) []):=by
  have h:=vH WB WB.heap.size (Nat.le_refl _);have e:Value.slice (some ⟨WB.heap.size,0,none⟩) 0 0=Value.slice (some ⟨w.heap.size+1,0,none⟩) 0 0:=by rw[hsz]
  rw[e]at h;exact h
 have hwB:=HBB.out.size;clear hsz;obtain⟨WC,hWC⟩:∃WC,WC=WB.alloc (.cells #[] 88):=⟨_,rfl⟩;have HBC:Hid (Below WB.heap.size WB WC):=by subst hWC;exact Below.new _ _
 rw[←hWC]at HO1;obtain⟨y0,y1,y2,y3⟩:=HS1.out _ HBC.out;go_enter Tryz.func68,Tryz.ntmps68;rw[hWB]at hWC;go_wp2_with fail;rw[←hWC];clear hWB hWC;go_wp2_with fail;go_loopw [5,11] (fun v i wr=>∃(k:Nat),k≤m∧i=.int .i64 k∧Hid (ChgsO wr WB.heap.size v ((rs.take k).flatMap IX))∧Below WB.heap.size WB wr) (fun _ i _=>m-(intOf i).toNat);case atStart=>exact⟨0,Nat.zero_le _,rfl,HO1.out,HBC.out⟩
 case round =>
  obtain⟨k,hk,rfl,hown,hb⟩:=hrel;have HB:=zh hb;have HBw:=zh (HBB.out.later hb);have hwr:=hb.size;clear hb HO1 y0 y1 y2 y3;obtain⟨vs,hown⟩:=hown;have HO:=zh hown;clear hown;by_cases hlt:k<m
  · obtain⟨rb,ro,rfl,hrb,hrc⟩:=HRD.out.2 (by omega);obtain⟨rv,hkc,hrr⟩:=hrc k hlt;have HRR:=zh hrr;obtain⟨QA,qn,qp,rfl,qs,qk⟩:=hrr;have hkl:k<rs.length:=by rw[HM.out];exact hlt
    have HROW:Hid (∀W,Below w.heap.size w W→RowR W W.heap.size (.slice QA qn qp) (rs.getD k default)):=fun W hW=>HRR.out.later hW;have HRB:=zh (HALL.out _ (xD rs k hkl));have HSTP:=zh (zFC IX rs k hkl);have HXL:=zh (HTX.out (rs.getD k default));have HKc:=zh (HKX.out (.slice QA qn qp) (rs.getD k default) HRB.out);have HTK:Hid (((rs.take k).flatMap IX).length≤1000):=by unfold Hid;have h1:=zAA IX 5 HTX.out (rs.take k);rw[List.length_take]at h1;omega
    have x9:=(HBw.out.cell (p:=⟨rb,ro+k,none⟩) hrb).trans hkc;clear hrc hkc qs HRR HRB hkl;have hwz:w.heap.size<wr.heap.size:=by have:=HX0.out.lt;omega
    have HBD:Hid (Below WB.heap.size WB (wr.alloc (.cells #[.slice QA qn qp] 31))):=HB.out.later (Below.new _ _);have HBDw:=zh (HBB.out.later HBD.out);have HOD:Hid (Own.OwnL uD (wr.alloc (.cells #[.slice QA qn qp] 31)) WB.heap.size 88 u5 ((rs.take k).flatMap IX) vs):=HO.out.later (Below.new _ _);obtain⟨x0,x1,x2,x3⟩:=HS1.out _ HB.out;generalize rs.getD k default=row at *;generalize hg:IX row=gs at *;clear hg;generalize hfs:(rs.take k).flatMap IX=fs0 at *;have HFS:=zh hfs;clear hfs;have hN:=HTK.out;generalize hNN:fs0.length=N at *;have HN:=zh hNN;clear hNN;have hgl:=HXL.out;have hwD:=HBD.out.size;go_wp2_with fail;refine(HKc.out _ HBDw.out (HROW.out _ HBDw.out)).mono ?_;rintro e w4 ⟨v4,rfl,⟨us,hown4⟩,hb4⟩;obtain⟨A4,cap4,rfl,hcap4,_,_⟩:=Own.own_slice hown4.row;have HB4:=zh hb4;have hw4:=hb4.size;have HO4:Hid (Own.OwnL uD w4 (wr.alloc (.cells #[.slice QA qn qp] 31)).heap.size 88 (.slice A4 gs.length cap4) gs us):=hown4;have HRD4:=zh (Reads.of_own hown4.row);have HONE:=zh (vL hown4);have HRA:Hid (w4.ownsRow WB.heap.size 88 4 u5 N (Own.flat uD fs0 vs)):=by have h:=(HOD.out.later hb4).row;rw[HN.out]at h;exact h
    clear hb4 hown4 x0 x1 x2 x3 x9;go_wp2_with (at_builtin;refine wE _ rfl (.tmp 15) (.tmp 18) 34 rfl WB.heap.size 88 i0 _ 4 64 Tryz.underlying34 hi0 hz0 hz1 hz2 rfl (by decide) _ N (Own.flat uD fs0 vs) rfl (HRA.out) w4.heap.size A4 gs.length cap4 (Own.flat uD gs us) rfl (HRD4.out) (HONE.out) ?c1 ?c2 ?c3 ?_);case c1=>unfold maxLen;omega
    case c2=>omega
    case c3=>omega
    intro v5 w5 hown5 hgrow5 _;have HC5:Hid (ChgsO w5 WB.heap.size v5 ((rs.take (k+1)).flatMap IX)):=by unfold Hid;rw[HSTP.out];exact zAC HOD.out hwD HB4.out HO4.out (by rw[HN.out];exact hown5) hgrow5
    have HB5:Hid (Below WB.heap.size WB w5):=(HBD.out.later HB4.out).grown hgrow5 (by omega) (fun g hg=>(World.ownsRow.lt HRA.out g hg).1);clear hown5 hgrow5;go_wp2_with fail;go_roundw;case rel=>exact⟨k+1,by omega,by go_num,HC5.out,HB5.out⟩
    case measure=>simp[intOf];omega
  · have HCE:Hid (ChgsO wr w.heap.size u5 (rs.flatMap IX)):=by unfold Hid;have h:ChgsO wr w.heap.size _ ((rs.take k).flatMap IX):=ChgsO.base ⟨vs,HO.out⟩ hwB;rw[List.take_of_length_le (l:=rs) (by rw[HM.out];omega)]at h;exact h
    go_wp2_with fail;go_ret;exact⟨_,rfl,HCE.out,HBw.out⟩
set_option maxRecDepth 100000 in
theorem zDn (A:Option Addr) (n c:Nat) (b0 b1 b2 b3:Value) (fs:List NodeD) (b:TableD) (w:World) (htab:vV w) (ht:Nodes w w.heap.size A n fs) (hb:TableR w w.heap.size b0 b1 b2 b3 b) (hts:wB fs) (hbs:b.small) :
 Calls Tryz.prog 18 #[.agg #[.slice A n c],.agg #[b0,b1,b2,b3]] w (zBD (vX fs b) w):=by
 obtain⟨i0,hi0,hz0,hz1,hz2⟩:=info_parts uT;have HK1:=zh (fun W (hW:Below w.heap.size w W)=>zER A n c b0 b1 b2 b3 fs b W (zH0 htab hW) (ht.later hW) (hb.later hW) hts hbs)
 have HFA:Hid ((wD fs b).1=0→zF0 b=true∧(wD fs b).2.length≤24∧∀r∈(wD fs b).2,vC b.cols r=true):=fun h=>by
  unfold wD at h ⊢;split at h
  · next hc=>rw[if_pos hc];simp only[Bool.and_eq_true]at hc;exact⟨hc.2,zAJ h⟩
  · cases h
 have HKX:Hid (zF0 b=true→∀RA rcap rs,rs.length≤24→(∀r∈rs,vC b.cols r=true)→∀W (hW:Below w.heap.size w W),RowsRd W W.heap.size RA rs.length rs→Calls Tryz.prog 68 #[.agg #[b0,b1,b2,b3],.slice RA rs.length rcap] W (xN (rs.flatMap (yG 1 b)) W)):=fun h1 RA rcap rs h2 h3 W hW h4 =>
  zDt b0 b1 b2 b3 RA rcap b rs W (hb.later hW) h4 hbs h1 h2 h3
 have HTX:Hid (zF0 b=true→∀rs:List (List ByteArray),rs.length≤24→(rs.flatMap (yG 1 b)).length≤1000):=fun h1 rs h2=>by obtain⟨f1,f2,f3,f4,f5⟩:=vA h1;have:=zAA (yG 1 b) 5 (fun q=>by have:=zCB b q;omega) rs;omega
 have HR:Hid (vX fs b=if (wD fs b).1=0 then (0,zAx b.glob::(wD fs b).2.flatMap (yG 1 b)) else ((wD fs b).1,[])):=rfl;have HKI:Hid (zAx b.glob=⟨2,b.glob,[⟨#[105]⟩],⟨#[]⟩⟩):=rfl;obtain⟨rfl,rfl,⟨A2,n2,p2,rfl,s2,k2⟩,⟨A3,n3,p3,rfl,s3,k3⟩⟩:=hb;clear s2 s3 ht hts hbs;generalize vX fs b=RR at *;generalize wD fs b=rt at *;obtain⟨rc,rs⟩:=rt;dsimp only at HFA HR;generalize zAx b.glob=D at *;generalize yG 1 b=IX at *;generalize zF0 b=xb at *;generalize vC b.cols=RBB at *;generalize b.name=nm at *;generalize b.glob=gl at *;obtain⟨WB,hWB⟩:∃WB,WB=(w.alloc (.cells #[.slice A n c] 26)).alloc (.cells #[.string nm,.string gl,.slice A2 n2 p2,.slice A3 n3 p3] 29):=⟨_,rfl⟩;have HX0:Hid (Blk WB w.heap.size 26 #[.slice A n c]):=by subst hWB;exact uC _ _ _
 have HX1:Hid (Blk WB (w.heap.size+1) 29 #[.string nm,.string gl,.slice A2 n2 p2,.slice A3 n3 p3]):=by subst hWB;exact xB _ _ _
 have HBB:Hid (Below w.heap.size w WB):=by subst hWB;exact(Below.new _ _).later (Below.new _ _)
 have HS1:Hid (∀W',Below WB.heap.size WB W'→(W'.cell? ⟨w.heap.size,0,none⟩=some (.slice A n c)∧W'.cell? ⟨w.heap.size+1,0,none⟩=some (.string nm)∧W'.cell? ⟨w.heap.size+1,1,none⟩=some (.string gl)∧W'.cell? ⟨w.heap.size+1,2,none⟩=some (.slice A2 n2 p2)∧W'.cell? ⟨w.heap.size+1,3,none⟩=some (.slice A3 n3 p3))):=fun W' hW=>⟨(HX0.out.later hW HX0.out.lt).at 0 rfl,(HX1.out.later hW HX1.out.lt).at 0 rfl,(HX1.out.later hW HX1.out.lt).at 1 rfl,(HX1.out.later hW HX1.out.lt).at 2 rfl,(HX1.out.later hW HX1.out.lt).at 3 rfl⟩;have hwB:=HBB.out.size;obtain⟨x0,x1,x2,x3,x4⟩:=HS1.out _ (Below.refl _ _);go_enter Tryz.func18,Tryz.ntmps18;go_wp2_with fail;rw[←hWB];clear hWB;(try go_wp2_with fail);refine(HK1.out _ HBB.out).mono ?_;rintro e w3 ⟨v3,rfl,hr3,hb3⟩;have HB3:=zh hb3;have HB3w:=zh (HBB.out.later HB3.out);obtain⟨RA,rcap,rfl,hrcap,hrd⟩:=zBl hr3;have HRD:=zh hrd;have hw3:=HB3.out.size;clear hr3 hb3 hrd x0 x1 x2 x3 x4 HK1;obtain⟨x0,x1,x2,x3,x4⟩:=HS1.out _ HB3.out;by_cases h0:rc=0
 case neg =>
  have HE:Hid (RR=(rc,[])):=by unfold Hid;rw[HR.out,if_neg h0]
  have hc2:(rc==(0:Int))=false:=beq_eq_false_iff_ne.2 h0;go_wp2_with fail;refine bodyPost_ret (v:=.tuple #[.slice none 0 0,.int .i64 rc]) (by simp[results,Tryz.results18,go_sem];try first | exact rfl | exact⟨rfl,rfl⟩) rfl ?_;exact⟨_,by rw[HE.out],by rw[HE.out];exact zAD _ _,HB3w.out⟩
 obtain⟨htb,hlen,hall⟩:=HFA.out h0;have HALL:=zh hall;have HE:Hid (RR=(0,D::rs.flatMap IX)):=by unfold Hid;rw[HR.out,if_pos h0]
 have HKc:=zh (HKX.out htb RA rcap rs hlen HALL.out);have HGL:=zh (HTX.out htb rs hlen);subst h0;clear hall HFA HR HKX HTX HALL htb;obtain⟨WX,hWX⟩:∃WX,WX=(w3.alloc (.cells #[.string ⟨#[105]⟩] 9)).alloc (.cells #[.int .i64 2,.string gl,.slice (some ⟨w3.heap.size,0,none⟩) 1 1,.string ⟨#[]⟩] 88):=⟨_,rfl⟩;have HQ:Hid (Blk WX (w3.heap.size+1) 88 #[.int .i64 2,.string gl,.slice (some ⟨w3.heap.size,0,none⟩) 1 1,.string ⟨#[]⟩]):=by subst hWX;exact xB _ _ _
 have HBX:Hid (Below w3.heap.size w3 WX):=by subst hWX;exact(Below.new _ _).later (Below.new _ _)
 have HSU:Hid (Own.SubO WX w3.heap.size (.slice (some ⟨w3.heap.size,0,none⟩) 1 1) [⟨#[105]⟩]):=by subst hWX;exact Own.own_later (zCm (w:=w3) (base:=w3.heap.size) [⟨#[105]⟩] #[.string ⟨#[105]⟩] (Nat.le_refl _) (by simp) rfl) (Below.new _ _)
 have HBXw:=zh (HB3w.out.later HBX.out);have hwx:=HBX.out.size;have HSX:Hid (∀W',Below WX.heap.size WX W'→(W'.cell? ⟨w.heap.size,0,none⟩=some (.slice A n c)∧W'.cell? ⟨w.heap.size+1,0,none⟩=some (.string nm)∧W'.cell? ⟨w.heap.size+1,1,none⟩=some (.string gl)∧W'.cell? ⟨w.heap.size+1,2,none⟩=some (.slice A2 n2 p2)∧W'.cell? ⟨w.heap.size+1,3,none⟩=some (.slice A3 n3 p3))∧(W'.cell? ⟨w3.heap.size+1,0,none⟩=some (.int .i64 2)∧W'.cell? ⟨w3.heap.size+1,1,none⟩=some (.string gl)∧W'.cell? ⟨w3.heap.size+1,2,none⟩=some (.slice (some ⟨w3.heap.size,0,none⟩) 1 1)∧W'.cell? ⟨w3.heap.size+1,3,none⟩=some (.string ⟨#[]⟩))):=fun W' hW=>⟨HS1.out _ ((HB3.out.later HBX.out).later hW),(HQ.out.later hW HQ.out.lt).at 0 rfl,(HQ.out.later hW HQ.out.lt).at 1 rfl,(HQ.out.later hW HQ.out.lt).at 2 rfl,(HQ.out.later hW HQ.out.lt).at 3 rfl⟩;have HRDX:Hid (∀W,Below w3.heap.size w3 W→RowsRd W W.heap.size RA rs.length rs):=fun W hW=>HRD.out.later hW;generalize hg:rs.flatMap IX=gs at *;clear hg;have hgl:=HGL.out;go_wp2_with fail;rw[←hWX];clear hWX x0 x1 x2 x3 x4;obtain⟨⟨x0,x1,x2,x3,x4⟩,y0,y1,y2,y3⟩:=HSX.out _ (Below.refl _ _);(try go_wp2_with fail)
 go_region_held3 (fun W'=>(W'.cell? ⟨w.heap.size,0,none⟩=some (.slice A n c)∧W'.cell? ⟨w.heap.size+1,0,none⟩=some (.string nm)∧W'.cell? ⟨w.heap.size+1,1,none⟩=some (.string gl)∧W'.cell? ⟨w.heap.size+1,2,none⟩=some (.slice A2 n2 p2)∧W'.cell? ⟨w.heap.size+1,3,none⟩=some (.slice A3 n3 p3))∧(W'.cell? ⟨w3.heap.size+1,0,none⟩=some (.int .i64 2)∧W'.cell? ⟨w3.heap.size+1,1,none⟩=some (.string gl)∧W'.cell? ⟨w3.heap.size+1,2,none⟩=some (.slice (some ⟨w3.heap.size,0,none⟩) 1 1)∧W'.cell? ⟨w3.heap.size+1,3,none⟩=some (.string ⟨#[]⟩)))
  (first | exact HSX.out _ H5.out | exact HSX.out _ H4.out | exact HSX.out _ (H4.out.later (Below.new _ _)) | exact HSX.out _ (Below.refl _ _).drew | exact HSX.out _ (Below.new _ _).drew | exact HSX.out _ (Below.new _ _) | go_keep)
  (first
    | (go_at_call 68
       with_reducible refine(HKc.out WX.drew (by exact HBXw.out.drew) (by exact HRDX.out _ HBX.out.drew)).mono ?_
       rintro e w4 ⟨v4,rfl,⟨us,hown4⟩,hb4'⟩;have hb4:=zD0 hb4';obtain⟨A4,cap4,rfl,hcap4,_,_⟩:=Own.own_slice hown4.row;have H4:Hid (Below WX.heap.size WX w4):=hb4;have hw4:WX.heap.size≤w4.heap.size:=hb4.size;have HO4:Hid (Own.OwnL uD (w4.alloc (.cells #[.int .i64 2,.string gl,.slice (some ⟨w3.heap.size,0,none⟩) 1 1,.string ⟨#[]⟩] 88)) WX.heap.size 88 (.slice A4 gs.length cap4) gs us):=hown4.later (Below.new _ _);have HLT:Hid (Own.OwnL uD (w4.alloc (.cells #[.int .i64 2,.string gl,.slice (some ⟨w3.heap.size,0,none⟩) 1 1,.string ⟨#[]⟩] 88)) w3.heap.size 88 (.slice (some ⟨w4.heap.size,0,none⟩) 1 1) [⟨2,gl,[⟨#[105]⟩],⟨#[]⟩⟩] [.slice (some ⟨w3.heap.size,0,none⟩) 1 1]):=zX0 (d:=⟨2,gl,[⟨#[105]⟩],⟨#[]⟩⟩) (xI HSU.out hb4) (by omega);have HBE:=zh (H4.out.later (Below.new w4 (.cells #[.int .i64 2,.string gl,.slice (some ⟨w3.heap.size,0,none⟩) 1 1,.string ⟨#[]⟩] 88)))
       clear hb4 hb4' hown4)
    | (go_at_call 68
       with_reducible refine(HKc.out (WX.alloc (.cells #[.int .i64 2,.string gl,.slice (some ⟨w3.heap.size,0,none⟩) 1 1,.string ⟨#[]⟩] 88)).drew (by exact(HBXw.out.later (Below.new _ _)).drew) (by exact HRDX.out _ (HBX.out.later (Below.new _ _)).drew)).mono ?_
       rintro e w4 ⟨v4,rfl,⟨us,hown4⟩,hb4'⟩;have hb4:=zD0 hb4';obtain⟨A4,cap4,rfl,hcap4,_,_⟩:=Own.own_slice hown4.row;have H4:Hid (Below WX.heap.size WX w4):=((Below.new WX (.cells #[.int .i64 2,.string gl,.slice (some ⟨w3.heap.size,0,none⟩) 1 1,.string ⟨#[]⟩] 88)).later hb4);have hw4:WX.heap.size+1≤w4.heap.size:=by have h:=hb4.size;simpa using h
       have HO4:Hid (Own.OwnL uD w4 WX.heap.size 88 (.slice A4 gs.length cap4) gs us):=hown4.base (by simp);have HLT:Hid (Own.OwnL uD w4 w3.heap.size 88 (.slice (some ⟨WX.heap.size,0,none⟩) 1 1) [⟨2,gl,[⟨#[105]⟩],⟨#[]⟩⟩] [.slice (some ⟨w3.heap.size,0,none⟩) 1 1]):=(zX0 (d:=⟨2,gl,[⟨#[105]⟩],⟨#[]⟩⟩) HSU.out (by omega)).later hb4;have HBE:=H4
       clear hb4 hb4' hown4)
    | (refine uM _ (by rfl) _ _ _ (by rfl) w3.heap.size 88 i0 _ 4 64 Tryz.underlying34 hi0 hz0 hz1 hz2 rfl (by omega) _ 1 (Own.flat uD [⟨2,gl,[⟨#[105]⟩],⟨#[]⟩⟩] [.slice (some ⟨w3.heap.size,0,none⟩) 1 1]) (by rfl) (by exact HLT.out.row)
        _ A4 gs.length cap4 (Own.flat uD gs us) (by rfl) (by exact Reads.of_own HO4.out.row) (by exact vL HO4.out)
        (by unfold maxLen;omega) (by omega) (by first | omega | (simp;omega)) ?_
       intro v5 w5 hown5 hgrow5 _;have HC5:=zh (OwnL.two (w3:=WX) HLT.out HO4.out HSU.out hwx hown5 hgrow5);have H5:Hid (Below WX.heap.size WX w5):=HBE.out.grown hgrow5 (by first | omega | (simp;omega)) (fun g hg=>by cases hg;dsimp only;omega)
       clear hown5 hgrow5))
 all_goals
  obtain⟨A7,cap7,rfl,_,_⟩:=HC5.out.reads;go_wp2_with fail;refine bodyPost_ret (v:=.tuple #[.slice A7 _ cap7,.int .i64 0]) (by simp[results,Tryz.results18,go_sem];try first | exact rfl | exact⟨rfl,rfl⟩) rfl ?_;exact⟨_,by rw[HE.out],by rw[HE.out,HKI.out];exact HC5.out.base HB3w.out.size,HBXw.out.later H5.out⟩
end Go.Proofs.YtgmaamnofhmecaaGreatDoor
namespace Go.Proofs.YtgmaamnofhmecaaGreatDoor
open Go.RowKit
def yQ (nm:ByteArray) (ss:List ByteArray) (d:NodeD) (out:Int):Int:=if inN nm ss d=true then (if d.subs.length=ss.length then out+1 else if out<10 then out+10 else out) else out
def uW (nm:ByteArray) (ss:List ByteArray) (fs:List NodeD):Int:=fs.foldl (fun out d=>yQ nm ss d out) 0
def zBw (fs:List NodeD) (nm:ByteArray) (ss:List ByteArray):Int:=if (xA fs&&wC nm ss)=true then uW nm ss fs else 0
end Go.Proofs.YtgmaamnofhmecaaGreatDoor
namespace Go.Proofs.YtgmaamnofhmecaaGreatDoor
open Go.RowKit
set_option linter.unusedVariables false
def vR (b:TableD) (rows:List (List ByteArray)) (d:NodeD):Bool :=
 decide (d.subs.length=4)&&(decide (0≤wA b.idx (d.subs.getD 1 ByteArray.empty))&&(decide (d.val=⟨#[]⟩)&&rows.any fun r=>decide (r.getD 0 ByteArray.empty=d.subs.getD 3 ByteArray.empty)&&decide (cellAt b.cols r (d.subs.getD 1 ByteArray.empty)=d.subs.getD 2 ByteArray.empty)))
def xE (g:ByteArray) (d:NodeD):Bool:=decide (d.name=g)&&(decide (0<d.subs.length)&&decide (d.subs.getD 0 ByteArray.empty=iS))
def zAr (fs:List NodeD) (c:ChgD):Bool:=decide (zBw fs c.name c.subs % 10=1)
def zS0 (fs:List NodeD) (b:TableD) (r:List ByteArray):Bool:=b.idx.all fun c=>(zI0 1 b.glob b.cols r c).all (zAr fs)
def xH (fs:List NodeD) (b:TableD):Bool :=
 (xA fs&&zF0 b)&&(decide ((uB b.cols (yA b.glob fs)).1=0)&&((fs.all fun d=>!xE b.glob d||vR b (uB b.cols (yA b.glob fs)).2 d)&&(uB b.cols (yA b.glob fs)).2.all (zS0 fs b)))
theorem zCb {a c:List ByteArray} (h:zG0 a c=true) (hl:c.length=a.length):c=a:=by
 have h2:=zCf a c;rw[h,decide_eq_true hl.symm]at h2;have h3:eqS a c=true:=by rw[←h2];rfl
 unfold eqS at h3;exact(of_decide_eq_true h3).symm
theorem zIr {nm:ByteArray} {ss:List ByteArray} {fs:List NodeD} (h:uW nm ss fs % 10=1):∃d∈fs,d.name=nm∧d.subs=ss:=by
 have key:∀(l:List NodeD) (o:Int),(∀d∈l,¬(d.name=nm∧d.subs=ss))→(l.foldl (fun out d=>yQ nm ss d out) o) % 10=o % 10:=by
  intro l
  induction l with
  | nil=>intro o _;rfl
  | cons d t ih =>
    intro o hn;rw[List.foldl_cons,ih _ (fun d' hd'=>hn d' (List.mem_cons_of_mem _ hd'))];unfold yQ;split
    · next hin =>
      unfold inN at hin;rw[Bool.and_eq_true,decide_eq_true_eq]at hin;split
      · next hl=>exact absurd ⟨hin.1,zCb hin.2 hl⟩ (hn d (by simp))
      · split <;> omega
    · rfl
 by_cases hx:∃d∈fs,d.name=nm∧d.subs=ss
 · exact hx
 · exfalso;have h2:=key fs 0 (fun d hd hc=>hx ⟨d,hd,hc⟩);unfold uW at h;rw[h2]at h;exact absurd h (by decide)
theorem zJH {l:List ByteArray} (h:l.length=4):l=[l.getD 0 ByteArray.empty,l.getD 1 ByteArray.empty,l.getD 2 ByteArray.empty,l.getD 3 ByteArray.empty]:=by
 match l,h with
 | [a,b,c,d],_=>rfl
end Go.Proofs.YtgmaamnofhmecaaGreatDoor
