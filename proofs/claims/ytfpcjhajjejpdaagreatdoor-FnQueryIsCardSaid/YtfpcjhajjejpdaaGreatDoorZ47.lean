import Derived.Test.YtfpcjhajjejpdaaGreatDoorZ41
import Derived.Test.YtfpcjhajjejpdaaGreatDoorZ45
import Derived.Test.YtfpcjhajjejpdaaGreatDoorZ23
import Derived.Test.YtfpcjhajjejpdaaGreatDoorZ46
import Derived.Test.YtfpcjhajjejpdaaGreatDoorZ17
import Derived.Test.YtfpcjhajjejpdaaGreatDoorZ34
import Derived.Test.YtfpcjhajjejpdaaGreatDoorZ05
import Derived.Test.YtfpcjhajjejpdaaGreatDoorZ22
import Derived.Deep.RegionHeld3
set_option maxHeartbeats 4000000
open Go.Lib renaming hid → zh
namespace Go.Proofs.YtfpcjhajjejpdaaGreatDoor
open Go.RowKit
set_option linter.unusedVariables false
set_option maxRecDepth 100000 in
theorem zFS (A:Option Addr) (n c:Nat) (b0 b1 b2 b3 c0 c1 c2 c3 c4 c5:Value) (fs:List NodeD) (b:TableD) (d:QueryD) (w:World) (htab:zU0 w) (ht:Nodes w w.heap.size A n fs) (hb:TableR w w.heap.size b0 b1 b2 b3 b) (h:QueryR w w.heap.size c0 c1 c2 c3 c4 c5 d) (hts:vF fs) (hbs:b.small) (hs:d.small) :
 Calls Tryz.prog 9 #[.agg #[.slice A n c],.agg #[b0,b1,b2,b3],.agg #[c0,c1,c2,c3,c4,c5]] w (zAA (zAf fs b d) w):=by
 have HK1:=zh (fun W (hW:Below w.heap.size w W)=>zEz A n c fs W (ht.later hW) (yF htab hW) hts);have HK2:=zh (fun W (hW:Below w.heap.size w W)=>zEU b0 b1 b2 b3 c0 c1 c2 c3 c4 c5 b d W (hb.later hW) (h.later hW) hbs hs);have HK3:Hid (uA fs=true→vS b d=true→∀W (hW:Below w.heap.size w W),Calls Tryz.prog 45 #[.agg #[.slice A n c],.agg #[b0,b1,b2,b3]] W (zAA (yI b.cols (xB b.glob fs)) W)):=fun h1 h2 W hW=>by obtain⟨⟨f1,f2⟩,_⟩:=vZ h2;exact zHL A n c b0 b1 b2 b3 fs b W (ht.later hW) (hb.later hW) hts h1 f1 f2
 have HK4:Hid (vS b d=true→(yI b.cols (xB b.glob fs)).1=0→∀W (hW:Below w.heap.size w W) v,RowsI W w.heap.size v (yI b.cols (xB b.glob fs)).2→∃A4 n4 cap4,v=.slice A4 n4 cap4∧Calls Tryz.prog 46 #[.agg #[b0,b1,b2,b3],.agg #[c0,c1,c2,c3,c4,c5],.slice A4 n4 cap4] W (zCp (yY b d (yI b.cols (xB b.glob fs)).2) W)):=fun h2 h3 W hW v hv=>by obtain⟨⟨f1,f2⟩,f3,f4,f4',f5,f6⟩:=vZ h2;obtain⟨g1,g2⟩:=zBE f2 h3;obtain⟨A4,cap4,rfl,_,hrd⟩:=zW0 hv;exact⟨A4,_,cap4,rfl,zHP A4 _ cap4 b0 b1 b2 b3 c0 c1 c2 c3 c4 c5 b d _ W (yF htab hW) (hb.later hW) (h.later hW) hrd hbs hs (fun r hr=>(g2 r hr).1) g1 f3 f4 f4' f5 f6 (fun r hr=>(g2 r hr).2)⟩
 have HR:Hid (zAf fs b d=if (uA fs&&vS b d)=true then (if (yI b.cols (xB b.glob fs)).1=0 then (0,yY b d (yI b.cols (xB b.glob fs)).2) else ((yI b.cols (xB b.glob fs)).1,[])) else (1,[])):=rfl;generalize uA fs=xt at *;generalize vS b d=xf at *;obtain⟨rfl,rfl,⟨A2,n2,p2,rfl,s2,k2⟩,⟨A3,n3,p3,rfl,s3,k3⟩⟩:=hb;obtain⟨rfl,⟨B1,m1,q1,rfl,t1,l1⟩,⟨B2,m2,q2,rfl,t2,l2⟩,rfl,rfl,rfl⟩:=h;clear s2 s3 t1 t2 ht hts hbs hs htab;generalize zAf fs b d=R at *;generalize hrt:yI b.cols (xB b.glob fs)=rt at *;clear hrt;generalize hmd:yY b d rt.2=md at *;clear hmd;generalize b.name=nm at *;generalize b.glob=gl at *;generalize d.table=tb at *;generalize d.order=od at *;generalize d.desc=ds at *;generalize d.limit=lm at *;have HB0:=zh (wJ w (.cells #[.slice A n c] 26) (.cells #[.string nm,.string gl,.slice A2 n2 p2,.slice A3 n3 p3] 29) (.cells #[.string tb,.slice B1 m1 q1,.slice B2 m2 q2,.string od,.bool ds,.int .i64 lm] 32));have HX0:=zh (zK0 w (.cells #[.slice A n c] 26) (.cells #[.string nm,.string gl,.slice A2 n2 p2,.slice A3 n3 p3] 29) (.cells #[.string tb,.slice B1 m1 q1,.slice B2 m2 q2,.string od,.bool ds,.int .i64 lm] 32));have HX1:=zh (uI w (.cells #[.slice A n c] 26) (.cells #[.string nm,.string gl,.slice A2 n2 p2,.slice A3 n3 p3] 29) (.cells #[.string tb,.slice B1 m1 q1,.slice B2 m2 q2,.string od,.bool ds,.int .i64 lm] 32));have HX2:=zh (zI0 w (.cells #[.slice A n c] 26) (.cells #[.string nm,.string gl,.slice A2 n2 p2,.slice A3 n3 p3] 29) (.cells #[.string tb,.slice B1 m1 q1,.slice B2 m2 q2,.string od,.bool ds,.int .i64 lm] 32));go_enter Tryz.func9,Tryz.ntmps9;go_wp2_with fail;refine(HK1.out _ HB0.out).mono ?_;rintro e w1 ⟨rfl,hb1⟩;have HB1:=zh (HB0.out.later hb1);have HY0:=zh (Blk.later HX0.out hb1 (by first | (simp;done) | (simp;omega)));have HY1:=zh (Blk.later HX1.out hb1 (by first | (simp;done) | (simp;omega)));have HY2:=zh (Blk.later HX2.out hb1 (by first | (simp;done) | (simp;omega)));clear hb1 HX0 HX1 HX2;cases xt
 · have HE:Hid (R=(1,[])):=by unfold Hid;rw[HR.out];rfl
   go_wp2_with fail;refine bodyPost_ret (v:=.tuple #[.slice none 0 0,.int .i64 _]) (by simp[results,Tryz.results9,go_sem];try first | exact rfl | exact⟨rfl,rfl⟩) rfl ?_;exact⟨_,by rw[HE.out],by rw[HE.out];exact⟨[],Own.OwnL.nil _ _ _⟩,HB1.out⟩
 have p0:=HY0.out.cell;have p1:=HY1.out.cell;have p2':=HY2.out.cell;have z2:=HY2.out.lt;go_wp2_with fail;refine(HK2.out _ HB1.out).mono ?_;rintro e w2 ⟨rfl,hb2⟩;have HB2:=zh (HB1.out.later hb2);have HZ0:=zh (HY0.out.later hb2 HY0.out.lt);have HZ1:=zh (HY1.out.later hb2 HY1.out.lt);have HZ2:=zh (HY2.out.later hb2 HY2.out.lt);clear hb2 p0 p1 p2' z2 HY0 HY1 HY2;cases xf
 · have HE:Hid (R=(1,[])):=by unfold Hid;rw[HR.out];rfl
   go_wp2_with fail;refine bodyPost_ret (v:=.tuple #[.slice none 0 0,.int .i64 _]) (by simp[results,Tryz.results9,go_sem];try first | exact rfl | exact⟨rfl,rfl⟩) rfl ?_;exact⟨_,by rw[HE.out],by rw[HE.out];exact⟨[],Own.OwnL.nil _ _ _⟩,HB2.out⟩
 have hRS:R=if rt.1=0 then (0,md) else (rt.1,[]):=by rw[HR.out];rfl
 have HRS:=zh hRS;have HK3':=zh (HK3.out (by first | rfl | trivial) (by first | rfl | trivial));have HK4':=zh (HK4.out (by first | rfl | trivial));clear hRS HR HK3 HK4;have p0:=HZ0.out.cell;have p1:=HZ1.out.cell;have p2':=HZ2.out.cell;go_wp2_with fail;refine(HK3'.out _ HB2.out).mono ?_;rintro e w3 ⟨v3,rfl,ho3,hb3⟩;have HB3:=zh (HB2.out.later hb3);have HO3:=zh (ho3.base HB2.out.size);have HW1:=zh (HZ1.out.later hb3 HZ1.out.lt);have HW2:=zh (HZ2.out.later hb3 HZ2.out.lt);clear ho3 hb3 p0 p1 p2' HZ0 HZ1 HZ2 HK3' HK1 HK2;have p1:=HW1.out.cell;have p2':=HW2.out.cell;obtain⟨rc,rs⟩:=rt;by_cases h0:rc=0
 · have HE:Hid (R=(0,md)):=by unfold Hid;rw[HRS.out,if_pos h0]
   obtain⟨A4,n4,cap4,rfl,hk4⟩:=HK4'.out h0 _ HB3.out _ HO3.out;have HM:=zh hk4;clear hk4 HK4' HRS HO3;subst h0;go_wp2_with fail;refine HM.out.mono ?_;rintro e w5 ⟨v5,rfl,ho5,hb5⟩;have HO5:=zh (ho5.base HB3.out.size);have HB5:=zh (HB3.out.later hb5);obtain⟨A5,cap5,rfl,_⟩:=zW0 ho5;clear ho5 hb5 p1 p2' HW1 HW2;go_wp2_with fail;refine bodyPost_ret (v:=.tuple #[.slice A5 _ cap5,.int .i64 _]) (by simp[results,Tryz.results9,go_sem];try exact⟨rfl,rfl⟩) rfl ?_;exact⟨_,by rw[HE.out],by rw[HE.out];exact HO5.out,HB5.out⟩
 · have HE:Hid (R=(rc,[])):=by unfold Hid;rw[HRS.out,if_neg h0]
   have i1:(rc==0)=false:=by simp[h0]
   have i2:(rc != 0)=true:=by simp[h0]
   obtain⟨A4,cap4,rfl,_⟩:=zW0 HO3.out;clear HK4' HRS HO3 p1 p2' HW1 HW2;go_wp2_with fail;refine bodyPost_ret (v:=.tuple #[.slice none 0 0,.int .i64 _]) (by simp[results,Tryz.results9,go_sem];try first | exact rfl | exact⟨rfl,rfl⟩) rfl ?_;exact⟨_,by rw[HE.out],by rw[HE.out];exact⟨[],Own.OwnL.nil _ _ _⟩,HB3.out⟩
end Go.Proofs.YtfpcjhajjejpdaaGreatDoor
namespace Go.Proofs.YtfpcjhajjejpdaaGreatDoor
open Go.RowKit
set_option linter.unusedVariables false
theorem zJV (A:Option Addr) (n c:Nat) (w:World) (hn:n≤9223372036854775807) :
 Calls Tryz.prog 7 #[.slice A n c,.slice none 0 0] w fun e w'=>e=.returned (.bool (decide (1048576<n)))∧w=w':=by
 by_cases h:1048576<n
 all_goals
  go_enter Tryz.func7,Tryz.ntmps7;go_wp2_with fail;go_ret;exact⟨zA0 (by first | (simp[h];done) | (simp[h];omega)),rfl⟩
theorem zJI (rs:List (List ByteArray)) (k:Nat) (h:k<rs.length):rs.getD k default∈rs:=by
 rw[List.getD_eq_getElem?_getD,List.getElem?_eq_getElem h];simp
set_option maxRecDepth 100000 in
theorem zBC (A A':Option Addr) (n c c':Nat) (rs:List (List ByteArray)) (w:World) (h:RowsRd w w.heap.size A n rs) (h':RowsRd w w.heap.size A' n rs) (hn:n≤1048576) (hsm:∀r∈rs,r.length≤1048576) :
 Calls Tryz.prog 11 #[.slice A n c,.slice A' n c'] w fun e w'=>e=.returned (.bool true)∧Below w.heap.size w w':=by
 have H1:=zh h;have H2:=zh h';have HL:=zh h.1;have HZ:=zh hsm;clear h h' hsm;go_enter Tryz.func11,Tryz.ntmps11;go_wp2_with fail;go_loopw [5] (fun i wr=>∃k:Nat,k≤n∧i=.int .i64 k∧Below w.heap.size w wr) (fun i _=>n-(intOf i).toNat);case atStart=>exact⟨0,Nat.zero_le _,rfl,Below.refl _ _⟩
 case round =>
  obtain⟨k,hk,rfl,hb⟩:=hrel;have HB:=zh hb;clear hb;by_cases hlt:k<n
  · obtain⟨b1,o1,rfl,hb1,hc1⟩:=(H1.out.later HB.out).2 (by omega);obtain⟨b2,o2,rfl,hb2,hc2⟩:=(H2.out.later HB.out).2 (by omega);obtain⟨v1,k1,A1,n1,p1,rfl,s1,q1⟩:=hc1 k hlt;obtain⟨v2,k2,A2,n2,p2,rfl,s2,q2⟩:=hc2 k hlt;have hz:=HZ.out _ (zJI rs k (by rw[HL.out];exact hlt));have HK:=zh (fun W (hW:Below wr.heap.size wr W)=>zFJ A1 A2 n1 p1 n2 p2 _ _ W (s1.later hW) (s2.later hW) (by rw[←s1.1];exact hz) (by rw[←s2.1];exact hz));have HEQ:Hid (eqS (rs.getD k default) (rs.getD k default)=true):=Own.eqS_same _;clear hc1 hc2 s1 s2 hz;generalize rs.getD k default=r at *;have hki:(k:Int)<(n:Int):=by omega
    go_wp2_with fail
    go_region_held3 (fun w'=>w'.cell? ⟨b1,o1+k,none⟩=some (.slice A1 n1 p1)∧w'.cell? ⟨b2,o2+k,none⟩=some (.slice A2 n2 p2))
     (first | with_reducible exact⟨k1,k2⟩ | exact⟨cell_later H5.out k1,cell_later H5.out k2⟩ | go_keep)
     ((go_at_call 51
       refine(HK.out _ (by exact(Below.refl _ _).drew)).mono ?_;rintro e w3 ⟨he,qn,rfl⟩;have H5:Hid (Below wr.heap.size wr (wr.drew.drewN qn)):=vA (Below.refl _ _).drew _;rw[HEQ.out]at he
       subst he))
    go_wp2_with fail;go_roundw;case rel=>exact⟨k+1,by omega,by go_num,vA HB.out _⟩
    case measure=>simp[intOf];omega
  · obtain rfl:k=n:=by omega
    go_wp2_with fail;go_ret;exact⟨rfl,HB.out⟩
end Go.Proofs.YtfpcjhajjejpdaaGreatDoor
namespace Go.Proofs.YtfpcjhajjejpdaaGreatDoor
open Go.RowKit
set_option linter.unusedVariables false
set_option maxRecDepth 100000 in
theorem zJt (A:Option Addr) (n c:Nat) (b0 b1 b2 b3:Value) (fs:List NodeD) (b:TableD) (key:ByteArray) (w:World) (ht:Nodes w w.heap.size A n fs) (hb:TableR w w.heap.size b0 b1 b2 b3 b) (hts:vF fs) (htr:uA fs=true) (hpos:0<b.cols.length) (hn5:b.cols.length≤5) (hk:key.size≤1048576) :
 Calls Tryz.prog 53 #[.agg #[.slice A n c],.agg #[b0,b1,b2,b3],.string key] w (zCO (vX b.cols (xB b.glob fs) key) w):=by
 have HK3:=zh (fun W (hW:Below w.heap.size w W)=>zBW A n c b0 b1 b2 b3 fs b W (ht.later hW) (hb.later hW) hts);have HKU:=zh (fun W (hW:Below w.heap.size w W) val hv=>zBP b0 b1 b2 b3 b key val W (hb.later hW) hpos hn5 hk hv);have HL:=zh (zGl (g:=b.glob) hts);have HNV:Hid (∀d∈xB b.glob fs,d.subs.length=2∧d.val.size≤64):=fun d hd=>⟨zBV d hd,zCu htr d (zBb hd)⟩;have HR:Hid (vX b.cols (xB b.glob fs) key=if wL (wU key) (xB b.glob fs) 0<0 then (3,[]) else (zAQ (uH b.cols key ((xB b.glob fs).getD (wL (wU key) (xB b.glob fs) 0).toNat default).val),(uH b.cols key ((xB b.glob fs).getD (wL (wU key) (xB b.glob fs) 0).toNat default).val).getD [])):=rfl;obtain⟨rfl,rfl,⟨A2,n2,p2,rfl,s2,k2⟩,⟨A3,n3,p3,rfl,s3,k3⟩⟩:=hb;clear s2 s3 ht hts htr hpos hn5 hk;generalize vX b.cols (xB b.glob fs) key=R at *;generalize xB b.glob fs=ns at *;generalize hup:uH b.cols key=up at *;clear hup;generalize b.name=nm at *;generalize b.glob=gl at *;have HB0:=zh (wJ w (.cells #[.slice A n c] 26) (.cells #[.string nm,.string gl,.slice A2 n2 p2,.slice A3 n3 p3] 29) (.cells #[.slice none 0 0] 40));have HX1:=zh (uI w (.cells #[.slice A n c] 26) (.cells #[.string nm,.string gl,.slice A2 n2 p2,.slice A3 n3 p3] 29) (.cells #[.slice none 0 0] 40));have HX2:=zh (zI0 w (.cells #[.slice A n c] 26) (.cells #[.string nm,.string gl,.slice A2 n2 p2,.slice A3 n3 p3] 29) (.cells #[.slice none 0 0] 40));go_enter Tryz.func53,Tryz.ntmps53;go_wp2_with fail;refine(HK3.out _ HB0.out).mono ?_;rintro e w3 ⟨v,ncs,rfl,ho,hc,hb3⟩;obtain⟨A4,cap4,rfl,_,hN4⟩:=wK ho rfl hc hb3;have HN4:=zh hN4;have HB3:=zh (HB0.out.later hb3);have HY1:=zh (Blk.later HX1.out hb3 (by first | (simp;done) | (simp;omega)));have HY2:=zh (Blk.later HX2.out hb3 (by first | (simp;done) | (simp;omega)));have hw3:=HY1.out.lt;have hw4:=HY2.out.lt;clear ho hc hb3 hN4 HX1 HX2 HK3;generalize hm:ns.length=m at *;have HM:=zh hm;have hml:m≤1048576:=HL.out;clear hm;go_wp2_with fail;go_loopw [14] (fun i wr=>∃(k:Nat),k≤m∧i=.int .i64 k∧Below w3.heap.size w3 wr∧Hid (wL (wU key) ns 0=wL (wU key) (ns.drop k) k)) (fun i _=>m-(intOf i).toNat);case atStart=>exact⟨0,Nat.zero_le _,rfl,Below.refl _ _,rfl⟩
 case round =>
  obtain⟨k,hk,rfl,hb,hS⟩:=hrel;have HB:=zh hb;have HBw:=zh (HB3.out.later hb);clear hb;by_cases hlt:k<m
  · have hl:k<ns.length:=by rw[HM.out];exact hlt
    obtain⟨bb,o,rfl,hbB,hcn⟩:=(HN4.out.later HB.out).2 (by omega);obtain⟨c0,c1,c2,k0,k1,k2',hr⟩:=hcn k hlt;clear hcn;obtain⟨hd2,hdv⟩:=HNV.out _ (wB ns k hl);have HST:=zh (zAw (wU key) ns k hl);have HGD:Hid (ns.getD k default=ns.getD k default):=rfl;clear hl;obtain⟨d,hd⟩:∃d,d=ns.getD k default:=⟨_,rfl⟩;rw[←hd]at hr hd2 hdv HST;have HD:=zh hd;clear hd HGD;obtain⟨rfl,⟨A1,n1,cap1,rfl,hs1,hcap1⟩,rfl⟩:=hr;obtain rfl:n1=2:=by rw[←hs1.1];exact hd2
    obtain⟨sb,so,rfl,hsb,hsc⟩:=hs1.2 (by omega);have hck:=hsc 1 (by omega);have HKK:=zh (fun W hW=>HKU.out W hW d.val hdv);have HKP:Hid (wU key d=decide (d.subs.getD 1 ByteArray.empty=key)):=rfl;have HVL:Hid (ns.getD k default=d):=HD.out.symm;clear hsc hs1 hdv hd2 HD;have y0:=(HY1.out.later HB.out hw3).cell 0;have y1:=(HY1.out.later HB.out hw3).cell 1;have y2:=(HY1.out.later HB.out hw3).cell 2;have y3:=(HY1.out.later HB.out hw3).cell 3;simp at y0 y1 y2 y3;have hz1:=(HY1.out.later HB.out hw3).lt;have i1:(k:Int)<(m:Int):=by omega
    generalize wU key d=kp at *;generalize d.subs.getD 1 ByteArray.empty=kk at *;have HVV:Hid ((ns.getD k default).val=d.val):=by unfold Hid;rw[HVL.out]
    clear HVL;generalize d.val=val at *;generalize d.name=dn at *;have HBq:=zh (Below.new wr (.cells #[.string dn,.slice (some ⟨sb,so,none⟩) 2 cap1,.string val] 83));have HNB:Hid (Blk (wr.alloc (.cells #[.string dn,.slice (some ⟨sb,so,none⟩) 2 cap1,.string val] 83)) wr.heap.size 83 #[.string dn,.slice (some ⟨sb,so,none⟩) 2 cap1,.string val]):=zD0 rfl;have z0:=HBw.out.size;have hck':=cell_later HBq.out hck;by_cases hkey:kk=key
    · obtain rfl:kp=true:=by rw[HKP.out,decide_eq_true hkey]
      have HE:Hid (R=(zAQ (up val),(up val).getD [])):=by unfold Hid;rw[HR.out,hS.out,HST.out,if_pos rfl,if_neg (by omega)];simp only[Int.toNat_natCast];rw[HVV.out]
      subst hkey;clear HKP HST hS HR;generalize up val=o' at *;go_wp2_with fail;refine(HKK.out _ (HBw.out.later HBq.out)).mono ?_;rintro e w4 ⟨v',rfl,hsub,hb4⟩;obtain⟨AC,cc,rfl,hcc,hmc,hac⟩:=Own.own_slice hsub;have HSUB:=zh hsub;have HB4:=zh ((HBw.out.later HBq.out).later hb4);have HQ:=zh ((HY2.out.later HB.out hw4).later (HBq.out.later hb4) (HY2.out.later HB.out hw4).lt);have q0:=HQ.out.cell 0;have qf:=HQ.out.frozen 0;have qz:=HQ.out.lt;simp at q0;clear hsub hb4 hac;have z4:=(HBw.out.later HBq.out).size;go_wp2_with fail;refine bodyPost_ret (v:=.tuple #[.agg #[.slice AC _ cc],.int .i64 _]) (by simp[results,Tryz.results53,go_sem,q0];try first | exact rfl | exact⟨rfl,rfl⟩) rfl ?_;rw[HE.out];refine⟨_,rfl,?_,HB4.out.setCell (by first | (simp;done) | (simp;omega) | (show w.heap.size≤_;omega)) _⟩;have hS2:=Own.own_base HSUB.out (base:=w.heap.size) z4;exact World.ownsRow.kept hS2 (row:=some (w.heap.size+1+1)) (Own.grown_set _ _ _ _) (.inr (fun e=>by have h1:=(HSUB.out.lt _ e).1;have h2:=hw4;have h3:=HB.out.size;simp at h1;omega))
    · obtain rfl:kp=false:=by rw[HKP.out,decide_eq_false hkey]
      have hS2:Hid (wL (wU key) ns 0=wL (wU key) (ns.drop (k+1)) (k+1)):=by unfold Hid;rw[hS.out,HST.out];rfl
      clear HKP HST hS HR;have j1:=uC hkey;go_wp2_with fail;go_roundw;case rel=>exact⟨k+1,by omega,by go_num,HB.out.later HBq.out,hS2.out⟩
      case measure=>simp[intOf];omega
  · have HE:Hid (R=(3,[])):=by unfold Hid;rw[HR.out,hS.out,List.drop_of_length_le (by rw[HM.out];omega)];rfl
    have HQ:=zh (HY2.out.later HB.out hw4);have q0:=HQ.out.cell 0;have qf:=HQ.out.frozen 0;have qz:=HQ.out.lt;simp at q0;clear HR hS HKU HNV;go_wp2_with fail;refine bodyPost_ret (v:=.tuple #[.agg #[.slice none 0 0],.int .i64 3]) (by simp[results,Tryz.results53,go_sem,q0]) rfl ?_;rw[HE.out];exact⟨_,rfl,Own.sub_nil _ _,HBw.out.setCell (by first | (simp;done) | (simp;omega) | (show w.heap.size≤_;omega)) _⟩
end Go.Proofs.YtfpcjhajjejpdaaGreatDoor
namespace Go.Proofs.YtfpcjhajjejpdaaGreatDoor
open Go.RowKit
set_option linter.unusedVariables false
set_option maxRecDepth 100000 in
theorem zKf (A:Option Addr) (n c:Nat) (b0 b1 b2 b3:Value) (fs:List NodeD) (b:TableD) (key:ByteArray) (w:World) (htab:zU0 w) (ht:Nodes w w.heap.size A n fs) (hb:TableR w w.heap.size b0 b1 b2 b3 b) (hts:vF fs) (hbs:b.small) (hk:key.size≤1048576) :
 Calls Tryz.prog 12 #[.agg #[.slice A n c],.agg #[b0,b1,b2,b3],.string key] w (zCO (zAq fs b key) w):=by
 have HK1:=zh (fun W (hW:Below w.heap.size w W)=>zEz A n c fs W (ht.later hW) (yF htab hW) hts);have HK2:=zh (fun W (hW:Below w.heap.size w W)=>zDn b0 b1 b2 b3 b W (hb.later hW) hbs);have HK3:Hid (uA fs=true→wM b=true→∀W (hW:Below w.heap.size w W),Calls Tryz.prog 53 #[.agg #[.slice A n c],.agg #[b0,b1,b2,b3],.string key] W (zCO (vX b.cols (xB b.glob fs) key) W)):=fun h0 h1 W hW=>by obtain⟨f1,f2,f3,f4,f5⟩:=uO h1;exact zJt A n c b0 b1 b2 b3 fs b key W (ht.later hW) (hb.later hW) hts h0 (by omega) f3 hk
 have HR:Hid (zAq fs b key=if (uA fs&&wM b)=true then vX b.cols (xB b.glob fs) key else (1,[])):=rfl;obtain⟨rfl,rfl,⟨A2,n2,p2,rfl,s2,k2⟩,⟨A3,n3,p3,rfl,s3,k3⟩⟩:=hb;clear s2 s3 ht hts hbs hk;generalize zAq fs b key=R at *;generalize uA fs=xt at *;generalize wM b=xb at *;generalize vX b.cols (xB b.glob fs) key=rt at *;generalize b.name=nm at *;generalize b.glob=gl at *;obtain⟨WB,hWB⟩:∃WB,WB=((w.alloc (.cells #[.slice A n c] 26)).alloc (.cells #[.string nm,.string gl,.slice A2 n2 p2,.slice A3 n3 p3] 29)).alloc (.cells #[.slice none 0 0] 40):=⟨_,rfl⟩;have HX0:Hid (Blk WB w.heap.size 26 #[.slice A n c]):=by subst hWB;exact zK0 _ _ _ _
 have HX1:Hid (Blk WB (w.heap.size+1) 29 #[.string nm,.string gl,.slice A2 n2 p2,.slice A3 n3 p3]):=by subst hWB;exact uI _ _ _ _
 have HX2:Hid (Blk WB (w.heap.size+1+1) 40 #[.slice none 0 0]):=by subst hWB;exact zI0 _ _ _ _
 have HBB:Hid (Below w.heap.size w WB):=by subst hWB;exact wJ w _ _ _
 have HS1:Hid (∀W',Below WB.heap.size WB W'→(W'.cell? ⟨w.heap.size,0,none⟩=some (.slice A n c)∧W'.cell? ⟨w.heap.size+1,0,none⟩=some (.string nm)∧W'.cell? ⟨w.heap.size+1,1,none⟩=some (.string gl)∧W'.cell? ⟨w.heap.size+1,2,none⟩=some (.slice A2 n2 p2)∧W'.cell? ⟨w.heap.size+1,3,none⟩=some (.slice A3 n3 p3))):=fun W' hW=>⟨(HX0.out.later hW HX0.out.lt).at 0 rfl,(HX1.out.later hW HX1.out.lt).at 0 rfl,(HX1.out.later hW HX1.out.lt).at 1 rfl,(HX1.out.later hW HX1.out.lt).at 2 rfl,(HX1.out.later hW HX1.out.lt).at 3 rfl⟩;go_enter Tryz.func12,Tryz.ntmps12;go_wp2_with fail;rw[←hWB];clear hWB;refine(HK1.out _ HBB.out).mono ?_;rintro e w1 ⟨rfl,hb1⟩;have HB1:=zh hb1;have HQ1:=zh (HX2.out.later hb1 HX2.out.lt);clear hb1;have q0:=HQ1.out.cell 0;have qf:=HQ1.out.frozen 0;have qz:=HQ1.out.lt;simp at q0;cases xt
 · have HE:Hid (R=(1,[])):=by unfold Hid;rw[HR.out];rfl
   go_wp2_with fail;refine bodyPost_ret (v:=.tuple #[.agg #[.slice none 0 0],.int .i64 1]) (by simp[results,Tryz.results12,go_sem,q0]) rfl ?_;exact⟨_,by rw[HE.out],by rw[HE.out];exact Own.sub_nil _ _,(HBB.out.later HB1.out).setCell (show w.heap.size≤w.heap.size+1+1 by omega) _⟩
 obtain⟨x0,x1,x2,x3,x4⟩:=HS1.out _ HB1.out;clear q0 qf qz;go_wp2_with fail;refine(HK2.out _ (HBB.out.later HB1.out)).mono ?_;rintro e w2 ⟨rfl,hb2⟩;have HB2:=zh (HB1.out.later hb2);have HQ2:=zh (HQ1.out.later hb2 HQ1.out.lt);clear hb2 x0 x1 x2 x3 x4;have q0:=HQ2.out.cell 0;have qf:=HQ2.out.frozen 0;have qz:=HQ2.out.lt;simp at q0;cases xb
 · have HE:Hid (R=(1,[])):=by unfold Hid;rw[HR.out];rfl
   go_wp2_with fail;refine bodyPost_ret (v:=.tuple #[.agg #[.slice none 0 0],.int .i64 1]) (by simp[results,Tryz.results12,go_sem,q0]) rfl ?_;exact⟨_,by rw[HE.out],by rw[HE.out];exact Own.sub_nil _ _,(HBB.out.later HB2.out).setCell (show w.heap.size≤w.heap.size+1+1 by omega) _⟩
 obtain⟨x0,x1,x2,x3,x4⟩:=HS1.out _ HB2.out;have HE:Hid (R=rt):=by unfold Hid;rw[HR.out];rfl
 have HK:=zh (HK3.out (by first | rfl | trivial) (by first | rfl | trivial));clear HR HK3 q0 qf qz;go_wp2_with fail;refine(HK.out _ (HBB.out.later HB2.out)).mono ?_;rintro e w3 ⟨v3,rfl,hs3,hb3⟩;obtain⟨A5,cap5,rfl,_,_,_⟩:=Own.own_slice hs3;have HO3:Hid (Own.SubO w3 w.heap.size (.slice A5 rt.2.length cap5) rt.2):=Own.own_base hs3 (HBB.out.later HB2.out).size;have HB3:=zh ((HBB.out.later HB2.out).later hb3);have HQ3:=zh (HQ2.out.later hb3 HQ2.out.lt);clear hs3 hb3 x0 x1 x2 x3 x4;have q0:=HQ3.out.cell 0;have qf:=HQ3.out.frozen 0;have qz:=HQ3.out.lt;simp at q0;go_wp2_with fail;refine bodyPost_ret (v:=.tuple #[.agg #[.slice A5 _ cap5],.int .i64 _]) (by simp[results,Tryz.results12,go_sem,q0];try first | exact rfl | exact⟨rfl,rfl⟩) rfl ?_;exact⟨_,by rw[HE.out],by rw[HE.out];exact HO3.out.setBlk HQ3.out (by decide),HB3.out.setCell (show w.heap.size≤w.heap.size+1+1 by omega) _⟩
end Go.Proofs.YtfpcjhajjejpdaaGreatDoor
