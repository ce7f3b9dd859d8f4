import Derived.Test.YtgmaamnofhmecaaGreatDoorV26
import Derived.Test.YtgmaamnofhmecaaGreatDoorV16
import Derived.Test.YtgmaamnofhmecaaGreatDoorV10
import Derived.Test.YtgmaamnofhmecaaGreatDoorV13
import Derived.Test.YtgmaamnofhmecaaGreatDoorV30
import Derived.Test.YtgmaamnofhmecaaGreatDoorV25
import Derived.Test.YtgmaamnofhmecaaGreatDoorV11
import Derived.Test.YtgmaamnofhmecaaGreatDoorV24
import Derived.Test.YtgmaamnofhmecaaGreatDoorV15
import Derived.Test.YtgmaamnofhmecaaGreatDoorV00
import Derived.Test.YtgmaamnofhmecaaGreatDoorV23
import Derived.Deep.AppendLies
import Derived.Deep.DeepCutAuto
import Derived.Deep.RegionHeld3
set_option maxHeartbeats 4000000
open Go.Lib renaming hid → zh
namespace Go.Proofs.YtgmaamnofhmecaaGreatDoor
open Go.RowKit
set_option linter.unusedVariables false
set_option maxRecDepth 100000 in
theorem zER (A:Option Addr) (n c:Nat) (b0 b1 b2 b3:Value) (fs:List NodeD) (b:TableD) (w:World) (htab:vV w) (ht:Nodes w w.heap.size A n fs) (hb:TableR w w.heap.size b0 b1 b2 b3 b) (hts:wB fs) (hbs:b.small) :
 Calls Tryz.prog 67 #[.agg #[.slice A n c],.agg #[b0,b1,b2,b3]] w (zAF (wD fs b) w):=by
 have HK1:=zh (fun W (hW:Below w.heap.size w W)=>zEP A n c fs W (ht.later hW) (zH0 htab hW) hts);have HK2:=zh (fun W (hW:Below w.heap.size w W)=>zDF b0 b1 b2 b3 b W (hb.later hW) hbs);have HK3:Hid (xA fs=true→zF0 b=true→∀W (hW:Below w.heap.size w W),Calls Tryz.prog 143 #[.agg #[.slice A n c],.agg #[b0,b1,b2,b3]] W (zAF (uB b.cols (yA b.glob fs)) W)):=fun h0 h1 W hW=>by obtain⟨f1,f2,f3,f4,f5⟩:=vA h1;exact zHQ A n c b0 b1 b2 b3 fs b W (ht.later hW) (hb.later hW) hts h0 (by omega) f3
 have HR:Hid (wD fs b=if (xA fs&&zF0 b)=true then uB b.cols (yA b.glob fs) else (1,[])):=rfl;obtain⟨rfl,rfl,⟨A2,n2,p2,rfl,s2,k2⟩,⟨A3,n3,p3,rfl,s3,k3⟩⟩:=hb;clear s2 s3 ht hts hbs;generalize wD fs b=R at *;generalize xA fs=xt at *;generalize zF0 b=xb at *;generalize uB b.cols (yA b.glob fs)=rt at *;generalize b.name=nm at *;generalize b.glob=gl at *;obtain⟨WB,hWB⟩:∃WB,WB=(w.alloc (.cells #[.slice A n c] 26)).alloc (.cells #[.string nm,.string gl,.slice A2 n2 p2,.slice A3 n3 p3] 29):=⟨_,rfl⟩;have HX0:Hid (Blk WB w.heap.size 26 #[.slice A n c]):=by subst hWB;exact uC _ _ _
 have HX1:Hid (Blk WB (w.heap.size+1) 29 #[.string nm,.string gl,.slice A2 n2 p2,.slice A3 n3 p3]):=by subst hWB;exact xB _ _ _
 have HBB:Hid (Below w.heap.size w WB):=by subst hWB;exact(Below.new _ _).later (Below.new _ _)
 have HS1:Hid (∀W',Below WB.heap.size WB W'→(W'.cell? ⟨w.heap.size,0,none⟩=some (.slice A n c)∧W'.cell? ⟨w.heap.size+1,0,none⟩=some (.string nm)∧W'.cell? ⟨w.heap.size+1,1,none⟩=some (.string gl)∧W'.cell? ⟨w.heap.size+1,2,none⟩=some (.slice A2 n2 p2)∧W'.cell? ⟨w.heap.size+1,3,none⟩=some (.slice A3 n3 p3))):=fun W' hW=>⟨(HX0.out.later hW HX0.out.lt).at 0 rfl,(HX1.out.later hW HX1.out.lt).at 0 rfl,(HX1.out.later hW HX1.out.lt).at 1 rfl,(HX1.out.later hW HX1.out.lt).at 2 rfl,(HX1.out.later hW HX1.out.lt).at 3 rfl⟩;go_enter Tryz.func67,Tryz.ntmps67;go_wp2_with fail;rw[←hWB];clear hWB;refine(HK1.out _ HBB.out).mono ?_;rintro e w1 ⟨rfl,hb1⟩;have HB1:=zh hb1;clear hb1;cases xt
 · have HE:Hid (R=(1,[])):=by unfold Hid;rw[HR.out];rfl
   go_wp2_with fail;refine bodyPost_ret (v:=.tuple #[.slice none 0 0,.int .i64 _]) (by simp[results,Tryz.results67,go_sem];try first | exact rfl | exact⟨rfl,rfl⟩) rfl ?_;exact⟨_,by rw[HE.out],by rw[HE.out];exact⟨[],Own.OwnL.nil _ _ _⟩,HBB.out.later HB1.out⟩
 obtain⟨x0,x1,x2,x3,x4⟩:=HS1.out _ HB1.out;go_wp2_with fail;refine(HK2.out _ (HBB.out.later HB1.out)).mono ?_;rintro e w2 ⟨rfl,hb2⟩;have HB2:=zh (HB1.out.later hb2);clear hb2 x0 x1 x2 x3 x4;cases xb
 · have HE:Hid (R=(1,[])):=by unfold Hid;rw[HR.out];rfl
   go_wp2_with fail;refine bodyPost_ret (v:=.tuple #[.slice none 0 0,.int .i64 _]) (by simp[results,Tryz.results67,go_sem];try first | exact rfl | exact⟨rfl,rfl⟩) rfl ?_;exact⟨_,by rw[HE.out],by rw[HE.out];exact⟨[],Own.OwnL.nil _ _ _⟩,HBB.out.later HB2.out⟩
 obtain⟨x0,x1,x2,x3,x4⟩:=HS1.out _ HB2.out;have HE:Hid (R=rt):=by unfold Hid;rw[HR.out];rfl
 have HK:=zh (HK3.out (by first | rfl | trivial) (by first | rfl | trivial));clear HR HK3;go_wp2_with fail;refine(HK.out _ (HBB.out.later HB2.out)).mono ?_;rintro e w3 ⟨v3,rfl,ho3,hb3⟩;obtain⟨A5,cap5,rfl,_⟩:=zBl ho3;have HO3:=zh (ho3.base (HBB.out.later HB2.out).size);have HB3:=zh ((HBB.out.later HB2.out).later hb3);clear ho3 hb3 x0 x1 x2 x3 x4;go_wp2_with fail;refine bodyPost_ret (v:=.tuple #[.slice A5 _ cap5,.int .i64 _]) (by simp[results,Tryz.results67,go_sem];try exact⟨rfl,rfl⟩) rfl ?_;exact⟨_,by rw[HE.out],by rw[HE.out];exact HO3.out,HB3.out⟩
end Go.Proofs.YtgmaamnofhmecaaGreatDoor
namespace Go.Proofs.YtgmaamnofhmecaaGreatDoor
open Go.RowKit
set_option linter.unusedVariables false
set_option maxRecDepth 100000 in
theorem zJy (A:Option Addr) (n c:Nat) (b0 b1 b2 b3:Value) (fs:List NodeD) (b:TableD) (key:ByteArray) (w:World) (ht:Nodes w w.heap.size A n fs) (hb:TableR w w.heap.size b0 b1 b2 b3 b) (hts:wB fs) (htr:xA fs=true) (hpos:0<b.cols.length) (hn5:b.cols.length≤5) (hk:key.size≤1048576) :
 Calls Tryz.prog 51 #[.agg #[.slice A n c],.agg #[b0,b1,b2,b3],.string key] w (zBN (uF b.cols (yA b.glob fs) key) w):=by
 have HK3:=zh (fun W (hW:Below w.heap.size w W)=>zCt A n c b0 b1 b2 b3 fs b W (ht.later hW) (hb.later hW) hts);have HKU:=zh (fun W (hW:Below w.heap.size w W) val hv=>zCk b0 b1 b2 b3 b key val W (hb.later hW) hpos hn5 hk hv);have HL:=zh (zEh (g:=b.glob) hts);have HNV:Hid (∀d∈yA b.glob fs,d.subs.length=2∧d.val.size≤64):=fun d hd=>⟨zBk d hd,zBE htr d (zAs hd)⟩;have HR:Hid (uF b.cols (yA b.glob fs) key=if wQ (zAR key) (yA b.glob fs) 0<0 then (3,[]) else (zAo (yF b.cols key ((yA b.glob fs).getD (wQ (zAR key) (yA b.glob fs) 0).toNat default).val),(yF b.cols key ((yA b.glob fs).getD (wQ (zAR key) (yA b.glob fs) 0).toNat default).val).getD [])):=rfl;obtain⟨rfl,rfl,⟨A2,n2,p2,rfl,s2,k2⟩,⟨A3,n3,p3,rfl,s3,k3⟩⟩:=hb;clear s2 s3 ht hts htr hpos hn5 hk;generalize uF b.cols (yA b.glob fs) key=R at *;generalize yA b.glob fs=ns at *;generalize hup:yF b.cols key=up at *;clear hup;generalize b.name=nm at *;generalize b.glob=gl at *;have HB0:=zh (zL0 w (.cells #[.slice A n c] 26) (.cells #[.string nm,.string gl,.slice A2 n2 p2,.slice A3 n3 p3] 29) (.cells #[.slice none 0 0] 31));have HX1:=zh (wK w (.cells #[.slice A n c] 26) (.cells #[.string nm,.string gl,.slice A2 n2 p2,.slice A3 n3 p3] 29) (.cells #[.slice none 0 0] 31));have HX2:=zh (wJ w (.cells #[.slice A n c] 26) (.cells #[.string nm,.string gl,.slice A2 n2 p2,.slice A3 n3 p3] 29) (.cells #[.slice none 0 0] 31));go_enter Tryz.func51,Tryz.ntmps51;go_wp2_with fail;refine(HK3.out _ HB0.out).mono ?_;rintro e w3 ⟨v,ncs,rfl,ho,hc,hb3⟩;obtain⟨A4,cap4,rfl,_,hN4⟩:=uI ho rfl hc hb3;have HN4:=zh hN4;have HB3:=zh (HB0.out.later hb3);have HY1:=zh (Blk.later HX1.out hb3 (by first | (simp;done) | (simp;omega)));have HY2:=zh (Blk.later HX2.out hb3 (by first | (simp;done) | (simp;omega)));have hw3:=HY1.out.lt;have hw4:=HY2.out.lt;clear ho hc hb3 hN4 HX1 HX2 HK3;generalize hm:ns.length=m at *;have HM:=zh hm;have hml:m≤1048576:=HL.out;clear hm;go_wp2_with fail;go_loopw [14] (fun i wr=>∃(k:Nat),k≤m∧i=.int .i64 k∧Below w3.heap.size w3 wr∧Hid (wQ (zAR key) ns 0=wQ (zAR key) (ns.drop k) k)) (fun i _=>m-(intOf i).toNat);case atStart=>exact⟨0,Nat.zero_le _,rfl,Below.refl _ _,rfl⟩
 case round =>
  obtain⟨k,hk,rfl,hb,hS⟩:=hrel;have HB:=zh hb;have HBw:=zh (HB3.out.later hb);clear hb;by_cases hlt:k<m
  · have hl:k<ns.length:=by rw[HM.out];exact hlt
    obtain⟨bb,o,rfl,hbB,hcn⟩:=(HN4.out.later HB.out).2 (by omega);obtain⟨c0,c1,c2,k0,k1,k2',hr⟩:=hcn k hlt;clear hcn;obtain⟨hd2,hdv⟩:=HNV.out _ (xD ns k hl);have HST:=zh (zDb (zAR key) ns k hl);have HGD:Hid (ns.getD k default=ns.getD k default):=rfl;clear hl;obtain⟨d,hd⟩:∃d,d=ns.getD k default:=⟨_,rfl⟩;rw[←hd]at hr hd2 hdv HST;have HD:=zh hd;clear hd HGD;obtain⟨rfl,⟨A1,n1,cap1,rfl,hs1,hcap1⟩,rfl⟩:=hr;obtain rfl:n1=2:=by rw[←hs1.1];exact hd2
    obtain⟨sb,so,rfl,hsb,hsc⟩:=hs1.2 (by omega);have hck:=hsc 1 (by omega);have HKK:=zh (fun W hW=>HKU.out W hW d.val hdv);have HKP:Hid (zAR key d=decide (d.subs.getD 1 ByteArray.empty=key)):=rfl;have HVL:Hid (ns.getD k default=d):=HD.out.symm;clear hsc hs1 hdv hd2 HD;have y0:=(HY1.out.later HB.out hw3).cell 0;have y1:=(HY1.out.later HB.out hw3).cell 1;have y2:=(HY1.out.later HB.out hw3).cell 2;have y3:=(HY1.out.later HB.out hw3).cell 3;simp at y0 y1 y2 y3;have hz1:=(HY1.out.later HB.out hw3).lt;have i1:(k:Int)<(m:Int):=by omega
    generalize zAR key d=kp at *;generalize d.subs.getD 1 ByteArray.empty=kk at *;have HVV:Hid ((ns.getD k default).val=d.val):=by unfold Hid;rw[HVL.out]
    clear HVL;generalize d.val=val at *;generalize d.name=dn at *;have HBq:=zh (Below.new wr (.cells #[.string dn,.slice (some ⟨sb,so,none⟩) 2 cap1,.string val] 102));have HNB:Hid (Blk (wr.alloc (.cells #[.string dn,.slice (some ⟨sb,so,none⟩) 2 cap1,.string val] 102)) wr.heap.size 102 #[.string dn,.slice (some ⟨sb,so,none⟩) 2 cap1,.string val]):=wF rfl;have z0:=HBw.out.size;have hck':=cell_later HBq.out hck;by_cases hkey:kk=key
    · obtain rfl:kp=true:=by rw[HKP.out,decide_eq_true hkey]
      have HE:Hid (R=(zAo (up val),(up val).getD [])):=by unfold Hid;rw[HR.out,hS.out,HST.out,if_pos rfl,if_neg (by omega)];simp only[Int.toNat_natCast];rw[HVV.out]
      subst hkey;clear HKP HST hS HR;generalize up val=o' at *;go_wp2_with fail;refine(HKK.out _ (HBw.out.later HBq.out)).mono ?_;rintro e w4 ⟨v',rfl,hsub,hb4⟩;obtain⟨AC,cc,rfl,hcc,hmc,hac⟩:=Own.own_slice hsub;have HSUB:=zh hsub;have HB4:=zh ((HBw.out.later HBq.out).later hb4);have HQ:=zh ((HY2.out.later HB.out hw4).later (HBq.out.later hb4) (HY2.out.later HB.out hw4).lt);have q0:=HQ.out.cell 0;have qf:=HQ.out.frozen 0;have qz:=HQ.out.lt;simp at q0;clear hsub hb4 hac;have z4:=(HBw.out.later HBq.out).size;go_wp2_with fail;refine bodyPost_ret (v:=.tuple #[.agg #[.slice AC _ cc],.int .i64 _]) (by simp[results,Tryz.results51,go_sem,q0];try first | exact rfl | exact⟨rfl,rfl⟩) rfl ?_;rw[HE.out];refine⟨_,rfl,?_,HB4.out.setCell (by first | (simp;done) | (simp;omega) | (show w.heap.size≤_;omega)) _⟩;have hS2:=Own.own_base HSUB.out (base:=w.heap.size) z4;exact World.ownsRow.kept hS2 (row:=some (w.heap.size+1+1)) (Own.grown_set _ _ _ _) (.inr (fun e=>by have h1:=(HSUB.out.lt _ e).1;have h2:=hw4;have h3:=HB.out.size;simp at h1;omega))
    · obtain rfl:kp=false:=by rw[HKP.out,decide_eq_false hkey]
      have hS2:Hid (wQ (zAR key) ns 0=wQ (zAR key) (ns.drop (k+1)) (k+1)):=by unfold Hid;rw[hS.out,HST.out];rfl
      clear HKP HST hS HR;have j1:=vE hkey;go_wp2_with fail;go_roundw;case rel=>exact⟨k+1,by omega,by go_num,HB.out.later HBq.out,hS2.out⟩
      case measure=>simp[intOf];omega
  · have HE:Hid (R=(3,[])):=by unfold Hid;rw[HR.out,hS.out,List.drop_of_length_le (by rw[HM.out];omega)];rfl
    have HQ:=zh (HY2.out.later HB.out hw4);have q0:=HQ.out.cell 0;have qf:=HQ.out.frozen 0;have qz:=HQ.out.lt;simp at q0;clear HR hS HKU HNV;go_wp2_with fail;refine bodyPost_ret (v:=.tuple #[.agg #[.slice none 0 0],.int .i64 3]) (by simp[results,Tryz.results51,go_sem,q0]) rfl ?_;rw[HE.out];exact⟨_,rfl,Own.sub_nil _ _,HBw.out.setCell (by first | (simp;done) | (simp;omega) | (show w.heap.size≤_;omega)) _⟩
end Go.Proofs.YtgmaamnofhmecaaGreatDoor
namespace Go.Proofs.YtgmaamnofhmecaaGreatDoor
open Go.RowKit
set_option linter.unusedVariables false
set_option maxRecDepth 100000 in
theorem zBX (b0 b1 b2 b3 r0:Value) (b:TableD) (r:List ByteArray) (col:ByteArray) (kind:Int) (w:World) (hb:TableR w w.heap.size b0 b1 b2 b3 b) (h:RowR w w.heap.size r0 r) (hbs:b.small) (hpl:0≤wA b.cols col) (hlt:(wA b.cols col).toNat<r.length) :
 Calls Tryz.prog 55 #[.agg #[b0,b1,b2,b3],.int .i64 kind,.agg #[r0],.string col] w (xN (zI0 kind b.glob b.cols r col) w):=by
 obtain⟨k,hk⟩:∃k:Nat,wA b.cols col=(k:Int):=⟨(wA b.cols col).toNat,by omega⟩;rw[hk,Int.toNat_natCast]at hlt;have HKC:=zh (fun W (hW:Below w.heap.size w W)=>zHu b0 b1 b2 b3 r0 b r col k W (hb.later hW) (h.later hW) hbs hk hlt);obtain⟨rfl,rfl,⟨A2,n2,p2,rfl,s2,k2⟩,⟨A3,n3,p3,rfl,s3,k3⟩⟩:=hb;obtain⟨A,n,c,rfl,hs,hnc⟩:=h;rw[hs.1]at hlt;obtain⟨rb,ro,rfl,hrb,hrc⟩:=hs.2 (by omega);have hc0:=hrc 0 (by omega);rw[Nat.add_zero]at hc0;have HR:Hid (zI0 kind b.glob b.cols r col=if r.getD k ByteArray.empty=⟨#[]⟩ then [] else [⟨kind,b.glob,[iS,col,r.getD k ByteArray.empty,r.getD 0 ByteArray.empty],⟨#[]⟩⟩]):=by unfold Hid zI0 cellAt;rw[hk];rfl
 clear s2 s3 hs hrc hk hbs hpl;generalize zI0 kind b.glob b.cols r col=R at *;generalize r.getD k ByteArray.empty=v at *;generalize r.getD 0 ByteArray.empty=key at *;generalize b.name=nm at *;generalize b.glob=gl at *;have hn1:0<n:=by omega
 obtain⟨WB,hWB⟩:∃WB,WB=(w.alloc (.cells #[.string nm,.string gl,.slice A2 n2 p2,.slice A3 n3 p3] 29)).alloc (.cells #[.slice (some ⟨rb,ro,none⟩) n c] 31):=⟨_,rfl⟩;have HX0:Hid (Blk WB w.heap.size 29 #[.string nm,.string gl,.slice A2 n2 p2,.slice A3 n3 p3]):=by subst hWB;exact uC _ _ _
 have HX1:Hid (Blk WB (w.heap.size+1) 31 #[.slice (some ⟨rb,ro,none⟩) n c]):=by subst hWB;exact xB _ _ _
 have HBB:Hid (Below w.heap.size w WB):=by subst hWB;exact(Below.new _ _).later (Below.new _ _)
 have HS1:Hid (∀W',Below WB.heap.size WB W'→(W'.cell? ⟨w.heap.size,0,none⟩=some (.string nm)∧W'.cell? ⟨w.heap.size,1,none⟩=some (.string gl)∧W'.cell? ⟨w.heap.size,2,none⟩=some (.slice A2 n2 p2)∧W'.cell? ⟨w.heap.size,3,none⟩=some (.slice A3 n3 p3)∧W'.cell? ⟨w.heap.size+1,0,none⟩=some (.slice (some ⟨rb,ro,none⟩) n c)∧W'.cell? ⟨rb,ro,none⟩=some (.string key))):=fun W' hW=>⟨(HX0.out.later hW HX0.out.lt).at 0 rfl,(HX0.out.later hW HX0.out.lt).at 1 rfl,(HX0.out.later hW HX0.out.lt).at 2 rfl,(HX0.out.later hW HX0.out.lt).at 3 rfl,(HX1.out.later hW HX1.out.lt).at 0 rfl,((HBB.out.later hW).cell (p:=⟨rb,ro,none⟩) hrb).trans hc0⟩;have hwz:=HBB.out.size;go_enter Tryz.func55,Tryz.ntmps55;go_wp2_with fail;rw[←hWB];clear hWB;refine(HKC.out _ HBB.out).mono ?_;rintro e w1 ⟨rfl,hb1⟩;have HB1:=zh (HBB.out.later hb1);obtain⟨x0,x1,x2,x3,x4,x5⟩:=HS1.out _ hb1;have z1:=hb1.size;have zw:w.heap.size<w1.heap.size:=by have:=HX0.out.lt;omega
 have zw1:w.heap.size+1<w1.heap.size:=by have:=HX1.out.lt;omega
 have zr:rb<w1.heap.size:=by omega
 clear hb1;by_cases hv:v=⟨#[]⟩
 · have HE:Hid (R=[]):=by unfold Hid;rw[HR.out,if_pos hv]
   subst hv;go_wp2_with fail;go_ret;exact⟨_,rfl,by rw[HE.out];exact zAD _ _,HB1.out⟩
 · have HE:Hid (R=[⟨kind,gl,[iS,col,v,key],⟨#[]⟩⟩]):=by unfold Hid;rw[HR.out,if_neg hv]
   have hbe:=vE hv;have hbe3:=zAa (l:=[]) hv;have HCO:=zh (zX0 (d:=⟨kind,gl,[iS,col,v,key],⟨#[]⟩⟩) (zCm (w:=w1) (base:=w.heap.size) [iS,col,v,key] #[.string ⟨#[105]⟩,.string col,.string v,.string key] HB1.out.size (by simp) rfl) (by have:=HB1.out.size;simp;omega));clear hv;go_wp2_with fail;first | go_region | skip
   go_wp2_with fail;go_ret;refine⟨.slice (some ⟨w1.heap.size+1,0,none⟩) 1 1,rfl,?_,((HB1.out.later (Below.new _ _)).later (Below.new _ _)).drew⟩;rw[HE.out];have h:=HCO.out;simp only[World.size_alloc]at h;exact ChgsO.later ⟨_,h⟩ (Below.refl _ _).drew
set_option maxRecDepth 100000 in
theorem zEv (b0 b1 b2 b3 r0:Value) (b:TableD) (r:List ByteArray) (kind:Int) (w:World) (hb:TableR w w.heap.size b0 b1 b2 b3 b) (h:RowR w w.heap.size r0 r) (hbs:b.small) (hil:b.idx.length≤1000000) (hpl:∀c∈b.idx,0≤wA b.cols c∧(wA b.cols c).toNat<r.length) :
 Calls Tryz.prog 144 #[.agg #[b0,b1,b2,b3],.int .i64 kind,.agg #[r0]] w (xN (yG kind b r) w):=by
 obtain⟨i0,hi0,hz0,hz1,hz2⟩:=info_parts uT;have HKI:=zh (fun c (hc:c∈b.idx) W (hW:Below w.heap.size w W)=>zBX b0 b1 b2 b3 r0 b r c kind W (hb.later hW) (h.later hW) hbs (hpl c hc).1 (hpl c hc).2);have HFL:=zh (zAz kind b.glob b.cols r);have HR:Hid (yG kind b r=b.idx.flatMap (zI0 kind b.glob b.cols r)):=rfl;obtain⟨rfl,rfl,⟨A2,n2,p2,rfl,s2,k2⟩,⟨A3,n3,p3,rfl,s3,k3⟩⟩:=hb;obtain⟨A,n,c,rfl,hs,hnc⟩:=h;have HSX:=zh s3;have HLI:=zh s3.1;have hn3:n3≤1000000:=by rw[←s3.1];exact hil
 clear s2 s3 hs hbs hil hpl;generalize yG kind b r=IX at *;generalize zI0 kind b.glob b.cols r=F at *;generalize b.idx=ids at *;generalize b.name=nm at *;generalize b.glob=gl at *;obtain⟨WB,hWB⟩:∃WB,WB=(w.alloc (.cells #[.string nm,.string gl,.slice A2 n2 p2,.slice A3 n3 p3] 29)).alloc (.cells #[.slice A n c] 31):=⟨_,rfl⟩;have HX0:Hid (Blk WB w.heap.size 29 #[.string nm,.string gl,.slice A2 n2 p2,.slice A3 n3 p3]):=by subst hWB;exact uC _ _ _
 have HX1:Hid (Blk WB (w.heap.size+1) 31 #[.slice A n c]):=by subst hWB;exact xB _ _ _
 have HBB:Hid (Below w.heap.size w WB):=by subst hWB;exact(Below.new _ _).later (Below.new _ _)
 have HS1:Hid (∀W',Below WB.heap.size WB W'→(W'.cell? ⟨w.heap.size,0,none⟩=some (.string nm)∧W'.cell? ⟨w.heap.size,1,none⟩=some (.string gl)∧W'.cell? ⟨w.heap.size,2,none⟩=some (.slice A2 n2 p2)∧W'.cell? ⟨w.heap.size,3,none⟩=some (.slice A3 n3 p3)∧W'.cell? ⟨w.heap.size+1,0,none⟩=some (.slice A n c))):=fun W' hW=>⟨(HX0.out.later hW HX0.out.lt).at 0 rfl,(HX0.out.later hW HX0.out.lt).at 1 rfl,(HX0.out.later hW HX0.out.lt).at 2 rfl,(HX0.out.later hW HX0.out.lt).at 3 rfl,(HX1.out.later hW HX1.out.lt).at 0 rfl⟩;have hwz:=HBB.out.size;have zw0:=HX0.out.lt;have zw1:=HX1.out.lt;have hsz:WB.heap.size=w.heap.size+1+1:=by subst hWB;simp
 have HO1:Hid (ChgsO (WB.alloc (.cells #[] 88)) WB.heap.size (.slice (some ⟨w.heap.size+1+1,0,none⟩) 0 0) []):=by
  have h:=vH WB WB.heap.size (Nat.le_refl _);have e:Value.slice (some ⟨WB.heap.size,0,none⟩) 0 0=Value.slice (some ⟨w.heap.size+1+1,0,none⟩) 0 0:=by rw[hsz]
  rw[e]at h;exact h
 clear hsz;obtain⟨y0,y1,y2,y3,y4⟩:=HS1.out _ (Below.new WB (.cells #[] 88));obtain⟨WC,hWC⟩:∃WC,WC=WB.alloc (.cells #[] 88):=⟨_,rfl⟩;have HBC:Hid (Below WB.heap.size WB WC):=by subst hWC;exact Below.new _ _
 rw[←hWC]at HO1 y0 y1 y2 y3 y4;go_enter Tryz.func144,Tryz.ntmps144;rw[hWB]at hWC;go_wp2_with fail;rw[←hWC];clear hWB hWC;go_wp2_with fail;go_loopw [7,14] (fun v i wr=>∃(k:Nat),k≤n3∧i=.int .i64 k∧ChgsO wr WB.heap.size v ((ids.take k).flatMap F)∧Below WB.heap.size WB wr) (fun _ i _=>n3-(intOf i).toNat);case atStart=>exact⟨0,Nat.zero_le _,rfl,HO1.out,HBC.out⟩
 case round =>
  obtain⟨k,hk,rfl,⟨vs,hown⟩,hb⟩:=hrel;have HB:=zh hb;have HO:=zh hown;clear y0 y1 y2 y3 y4;obtain⟨x0,x1,x2,x3,x4⟩:=HS1.out _ hb;have HBw:=zh (HBB.out.later hb);have hwr:=hb.size;clear hb hown HO1;by_cases hlt:k<n3
  · obtain⟨ib,io,rfl,hib,hic⟩:=(HSX.out.later HBw.out).2 (by omega);have hik:=hic k hlt;have hl:k<ids.length:=by rw[HLI.out];exact hlt
    have HKc:=zh (HKI.out _ (vK ids k hl));have HST:=zh (vY F ids k hl);have HF1:=zh (HFL.out (ids.getD k ByteArray.empty));have HTL:Hid (((ids.take k).flatMap F).length≤1000001):=by unfold Hid;have h1:=zBu F HFL.out (ids.take k);rw[List.length_take]at h1;omega
    clear hic hl;generalize ids.getD k ByteArray.empty=col at *;generalize hg:F col=gs at *;clear hg;generalize hfs:(ids.take k).flatMap F=fs at *;have HFS:=zh hfs;clear hfs;have hN:=HTL.out;generalize hNN:fs.length=N at *;have HN:=zh hNN;clear hNN;have hM:=HF1.out;go_wp2_with fail;refine(HKc.out _ HBw.out).mono ?_;rintro e w4 ⟨v4,rfl,⟨us,hown4⟩,hb4⟩;obtain⟨A4,cap4,rfl,hcap4,_,_⟩:=Own.own_slice hown4.row;have HB4:=zh hb4;have hw4:=hb4.size;have HO4:Hid (Own.OwnL uD w4 wr.heap.size 88 (.slice A4 gs.length cap4) gs us):=hown4;have HRD:=zh (Reads.of_own hown4.row);have HONE:=zh (vL hown4);have HRA:Hid (w4.ownsRow WB.heap.size 88 4 u7 N (Own.flat uD fs vs)):=by have h:=(HO.out.later hb4).row;rw[HN.out]at h;exact h
    clear hb4 hown4 x0 x1 x2 x3 x4;go_wp2_with (at_builtin;refine wE _ rfl (.tmp 18) (.tmp 23) 34 rfl WB.heap.size 88 i0 _ 4 64 Tryz.underlying34 hi0 hz0 hz1 hz2 rfl (by decide) _ N (Own.flat uD fs vs) rfl (HRA.out) w4.heap.size A4 gs.length cap4 (Own.flat uD gs us) rfl (HRD.out) (HONE.out) ?c1 ?c2 ?c3 ?_);case c1=>unfold maxLen;omega
    case c2=>omega
    case c3=>omega
    intro v5 w5 hown5 hgrow5 _;have HC5:Hid (ChgsO w5 WB.heap.size v5 ((ids.take (k+1)).flatMap F)):=by unfold Hid;rw[HST.out];exact zAC HO.out hwr HB4.out HO4.out (by rw[HN.out];exact hown5) hgrow5
    have HB5:Hid (Below WB.heap.size WB w5):=(HB.out.later HB4.out).grown hgrow5 (by omega) (fun g hg=>(World.ownsRow.lt HRA.out g hg).1);clear hown5 hgrow5;go_wp2_with fail;go_roundw;case rel=>exact⟨k+1,by omega,by go_num,HC5.out,HB5.out⟩
    case measure=>simp[intOf];omega
  · have HE:Hid ((ids.take k).flatMap F=IX):=by unfold Hid;rw[List.take_of_length_le (by rw[HLI.out];omega),HR.out]
    have HCE:Hid (ChgsO wr w.heap.size u7 IX):=by unfold Hid;rw[←HE.out];exact ChgsO.base ⟨vs,HO.out⟩ hwz
    go_wp2_with fail;go_ret;exact⟨_,rfl,HCE.out,HBw.out⟩
end Go.Proofs.YtgmaamnofhmecaaGreatDoor
