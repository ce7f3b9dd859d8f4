import Derived.Test.YtgmaamnofhmecaaGreatDoorV26
import Derived.Test.YtgmaamnofhmecaaGreatDoorV29
import Derived.Test.YtgmaamnofhmecaaGreatDoorV24
import Derived.Test.YtgmaamnofhmecaaGreatDoorV13
import Derived.Deep.RegionHeld3
set_option maxHeartbeats 4000000
open Go.Lib renaming hid → zh
namespace Go.Proofs.YtgmaamnofhmecaaGreatDoor
open Go.RowKit
set_option linter.unusedVariables false
set_option maxRecDepth 100000 in
theorem zHQ (A:Option Addr) (n c:Nat) (b0 b1 b2 b3:Value) (fs:List NodeD) (b:TableD) (w:World) (h:Nodes w w.heap.size A n fs) (hb:TableR w w.heap.size b0 b1 b2 b3 b) (hs:wB fs) (ht:xA fs=true) (hpos:0<b.cols.length) (hn5:b.cols.length≤5) :
 Calls Tryz.prog 143 #[.agg #[.slice A n c],.agg #[b0,b1,b2,b3]] w (zAF (uB b.cols (yA b.glob fs)) w):=by
 obtain⟨i0,hi,hz0,hz1,hz2⟩:=info_parts zEu;have HK3:=zh (fun W (hW:Below w.heap.size w W)=>zCt A n c b0 b1 b2 b3 fs b W (h.later hW) (hb.later hW) hs);have HKU:=zh (fun W (hW:Below w.heap.size w W) key val hk hv=>zCk b0 b1 b2 b3 b key val W (hb.later hW) hpos hn5 hk hv);have HNV:Hid (∀d∈yA b.glob fs,d.subs.length=2∧(∀s∈d.subs,s.size≤1048576)∧d.val.size≤64):=fun d hd=>⟨zBk d hd,(hs.2 d (zAs hd)).2.1.2,zBE ht d (zAs hd)⟩;have HR:Hid (uB b.cols (yA b.glob fs)=(if 24<(yA b.glob fs).length then ((4:Int),[]) else match zE0 (zAQ b.cols) (yA b.glob fs) with | none=>((14:Int),[]) | some rs=>((0:Int),rs))):=rfl;have HF:Hid (∀d,zAQ b.cols d=yF b.cols (d.subs.getD 1 ByteArray.empty) d.val):=fun _=>rfl;obtain⟨rfl,rfl,⟨A2,n2,p2,rfl,s2,k2⟩,⟨A3,n3,p3,rfl,s3,k3⟩⟩:=hb;clear s2 s3 h hs ht hpos hn5;generalize uB b.cols (yA b.glob fs)=R at *;generalize yA b.glob fs=ns at *;generalize yF b.cols=up at *;generalize zAQ b.cols=kv at *;generalize b.name=nm at *;generalize b.glob=gl at *;have HB0:=zh ((Below.new w (.cells #[.slice A n c] 26)).later (Below.new _ (.cells #[.string nm,.string gl,.slice A2 n2 p2,.slice A3 n3 p3] 29)));have HX1:=zh (xB w (.cells #[.slice A n c] 26) (.cells #[.string nm,.string gl,.slice A2 n2 p2,.slice A3 n3 p3] 29));go_enter Tryz.func143,Tryz.ntmps143;go_wp2_with fail;refine(HK3.out _ HB0.out).mono ?_;rintro e w3 ⟨v,ncs,rfl,ho,hc,hb3⟩;obtain⟨A4,cap4,rfl,_,hN4⟩:=uI ho rfl hc hb3;have HN4:=zh hN4;have HB3:=zh (HB0.out.later hb3);have HY1:=zh (Blk.later HX1.out hb3 (by simp));have hw3:=HY1.out.lt;clear ho hc hb3 hN4;generalize hm:ns.length=m at *;have HM:=zh hm;clear hm;by_cases hbig:24<m
 · have HE:Hid (R=(4,[])):=by unfold Hid;rw[HR.out,if_pos hbig]
   go_wp2_with fail
   go_ret2
   rw[HE.out];exact⟨_,rfl,⟨[],Own.OwnL.nil _ _ _⟩,HB3.out.later (Below.new _ _)⟩
 have HR2:Hid (R=match zE0 kv ns with | none=>((14:Int),[]) | some rs=>((0:Int),rs)):=by unfold Hid;rw[HR.out,if_neg hbig]
 clear HR;go_wp2_with fail;go_loopw [7,21] (fun v i wr=>∃(k:Nat) (acc:List (List ByteArray)),k≤m∧i=.int .i64 k∧acc.length=k∧RowsI wr w3.heap.size v acc∧Below w3.heap.size w3 wr∧Hid (zE0 kv ns=(zE0 kv (ns.drop k)).map (acc++·))) (fun _ i _=>m-(intOf i).toNat);case atStart=>exact⟨0,[],Nat.zero_le _,rfl,rfl,zAt w3 _ (Nat.le_refl _),Below.new _ _,by simp[Hid]⟩
 case round =>
  obtain⟨k,acc,hk,rfl,hacc,hrows,hb,hS⟩:=hrel;have HB:=zh hb;obtain⟨vs,hrows⟩:=hrows;have HRW:=zh hrows;have HBw:=zh (HB3.out.later hb);clear hb hrows;by_cases hlt:k<m
  · have hl:k<ns.length:=by rw[HM.out];exact hlt
    obtain⟨bb,o,rfl,hbB,hcn⟩:=(HN4.out.later HB.out).2 (by omega);obtain⟨c0,c1,c2,k0,k1,k2',hr⟩:=hcn k hlt;clear hcn;obtain⟨hd2,hds,hdv⟩:=HNV.out _ (xD ns k hl);have HN:=zh (zDr kv ns k hl);have HSo:=zh (fun x=>zDq kv ns k hl (x:=x));have HFd:=zh (HF.out (ns.getD k default));clear hl;generalize ns.getD k default=d at *;obtain⟨rfl,⟨A1,n1,cap1,rfl,hs1,hcap1⟩,rfl⟩:=hr;obtain rfl:n1=2:=by rw[←hs1.1];exact hd2
    obtain⟨sb,so,rfl,hsb,hsc⟩:=hs1.2 (by omega);have hck:=hsc 1 (by omega);have HKK:=zh (fun W hW=>HKU.out W hW (d.subs.getD 1 ByteArray.empty) d.val (hds _ (vK _ _ (by omega))) hdv);clear hsc hs1 hds hdv hd2;have y0:=(HY1.out.later HB.out hw3).cell 0;have y1:=(HY1.out.later HB.out hw3).cell 1;have y2:=(HY1.out.later HB.out hw3).cell 2;have y3:=(HY1.out.later HB.out hw3).cell 3;simp at y0 y1 y2 y3;have i1:(k:Int)<(m:Int):=by omega
    generalize d.subs.getD 1 ByteArray.empty=key at *;generalize d.val=val at *;generalize up key val=o' at *;generalize d.name=dn at *;have HBq:=zh (Below.new wr (.cells #[.string dn,.slice (some ⟨sb,so,none⟩) 2 cap1,.string val] 102));have HNB:Hid (Blk (wr.alloc (.cells #[.string dn,.slice (some ⟨sb,so,none⟩) 2 cap1,.string val] 102)) wr.heap.size 102 #[.string dn,.slice (some ⟨sb,so,none⟩) 2 cap1,.string val]):=wF rfl;obtain⟨WN,hWN⟩:∃WN,WN=wr.alloc (.cells #[.string dn,.slice (some ⟨sb,so,none⟩) 2 cap1,.string val] 102):=⟨_,rfl⟩;rw[←hWN]at HBq HNB;have HB:=zh (HB.out.later HBq.out);have HRW:=zh (HRW.out.later HBq.out);have HBw:=zh (HBw.out.later HBq.out);have y0:=cell_later HBq.out y0;have y1:=cell_later HBq.out y1;have y2:=cell_later HBq.out y2;have y3:=cell_later HBq.out y3;have hck:=cell_later HBq.out hck;have n1':=HNB.out.cell 1;have n2':=HNB.out.cell 2;have nz:=HNB.out.lt;simp at n1' n2';obtain⟨nb,hnb⟩:∃nb,nb=wr.heap.size:=⟨_,rfl⟩;go_wp2_with fail;rw[←hWN];rw[←hnb]at n1' n2' nz ⊢;clear hWN HBq HNB k0 k1 k2' hnb;have HQ0:Hid (Blk (WN.alloc (.cells #[.slice none 0 0] 31)) WN.heap.size 31 #[.slice none 0 0]):=wF rfl;have HBn:=zh (HBw.out.later (Below.new WN (.cells #[.slice none 0 0] 31)));have HS:Hid (∀W',Below WN.heap.size WN W'→(W'.cell? ⟨w.heap.size+1,0,none⟩=some (.string nm)∧W'.cell? ⟨w.heap.size+1,1,none⟩=some (.string gl)∧W'.cell? ⟨w.heap.size+1,2,none⟩=some (.slice A2 n2 p2)∧W'.cell? ⟨w.heap.size+1,3,none⟩=some (.slice A3 n3 p3)∧W'.cell? ⟨nb,1,none⟩=some (.slice (some ⟨sb,so,none⟩) 2 cap1)∧W'.cell? ⟨nb,2,none⟩=some (.string val)∧W'.cell? ⟨sb,so+1,none⟩=some (.string key))):=fun W' hW=>⟨cell_later hW y0,cell_later hW y1,cell_later hW y2,cell_later hW y3,cell_later hW n1',cell_later hW n2',cell_later hW hck⟩;obtain⟨y0,y1,y2,y3,n1',n2',hck⟩:=HS.out _ (Below.refl _ _)
    go_region_held3 (fun w'=>w'.cell? ⟨w.heap.size+1,0,none⟩=some (.string nm)∧w'.cell? ⟨w.heap.size+1,1,none⟩=some (.string gl)∧w'.cell? ⟨w.heap.size+1,2,none⟩=some (.slice A2 n2 p2)∧w'.cell? ⟨w.heap.size+1,3,none⟩=some (.slice A3 n3 p3)∧w'.cell? ⟨nb,1,none⟩=some (.slice (some ⟨sb,so,none⟩) 2 cap1)∧w'.cell? ⟨nb,2,none⟩=some (.string val)∧w'.cell? ⟨sb,so+1,none⟩=some (.string key)) (first | exact HS.out _ (Below.refl _ _).drew | exact HS.out _ (Below.new _ _).drew | exact HS.out _ HBY.out | exact HS.out _ (HBY.out.later (Below.new _ _)) | exact HS.out _ (HBY.out.setCell (Nat.le_refl _) _))
     (first
       | (go_at_call 129;refine(HKK.out _ HBw.out.drew).mono ?_;rintro e w4 ⟨v',rfl,hsub,hb4'⟩;obtain⟨AC,cc,rfl,hcc,hmc,hac⟩:=Own.own_slice hsub;have HSUB:=zh hsub;have HBX:=zh (zD0 hb4');have HBY:=zh HBX.out;clear hsub hb4' hac)
       | (go_at_call 129;refine(HKK.out _ HBn.out.drew).mono ?_;rintro e w4 ⟨v',rfl,hsub,hb4'⟩;obtain⟨AC,cc,rfl,hcc,hmc,hac⟩:=Own.own_slice hsub;have HSUB:=zh hsub;have HBX:=zh (zD0 hb4');have HBY:=zh ((Below.new WN (.cells #[.slice none 0 0] 31)).later HBX.out);have HQ:=zh (Blk.later HQ0.out HBX.out (by simp));have q0:=(Blk.cell HQ.out 0);have qf:=Blk.frozen HQ.out 0;have qz:=Blk.lt HQ.out;simp at q0;clear hsub hb4' hac))
    · have HBZ:=zh (HBX.out.later (Below.new w4 (.cells #[(.slice AC (o'.getD []).length cc)] 31)));have HQ5:Hid (Blk (w4.alloc (.cells #[(.slice AC (o'.getD []).length cc)] 31)) w4.heap.size 31 #[(.slice AC (o'.getD []).length cc)]):=wF rfl;have HS5:Hid (Own.SubO (w4.alloc (.cells #[(.slice AC (o'.getD []).length cc)] 31)) WN.heap.size (.slice AC (o'.getD []).length cc) (o'.getD [])):=Own.own_later HSUB.out (Below.new _ _);have HAPB:WN.heap.size≤WN.heap.size:=Nat.le_refl _;obtain⟨W5,hW5⟩:∃W5,W5=w4.alloc (.cells #[(.slice AC (o'.getD []).length cc)] 31):=⟨_,rfl⟩;rw[←hW5]at HBZ HQ5 HS5 ⊢;clear hW5 HBX HBY HSUB HQ0 HBn;have HB5:=zh (HB.out.later HBZ.out);have HBv:=zh (HB3.out.later HB5.out);have HRW5:=zh (HRW.out.later HBZ.out);have q5:=HQ5.out.cell 0;have qz5:=HQ5.out.lt;simp at q5;have z35:=HB5.out.size;have z36:=HB.out.size
      cases o' with
      | none =>
        have HE:Hid (R=(14,[])):=by unfold Hid;rw[HR2.out,hS.out,HN.out HFd.out];rfl
        have hcu:zAo (none:Option (List ByteArray))=14:=rfl;rw[hcu];clear q5 qz5;go_wp2_with fail
        go_ret2
        rw[HE.out];exact⟨_,rfl,⟨[],Own.OwnL.nil _ _ _⟩,HBv.out⟩
      | some x =>
        have HE:Hid (zE0 kv ns=(zE0 kv (ns.drop (k+1))).map ((acc++[x])++·)):=by
         unfold Hid;rw[hS.out,HSo.out x HFd.out,Option.map_map]
         congr 1
         funext l
         simp
        have hcu:zAo (some x)=0:=rfl;rw[hcu];have HO:=zh HRW5.out;have HAP:=zh (Own.OwnL.fresh HRW.out HS5.out HAPB);have hrow:Hid (∀oo,(W5.alloc oo).ownsRow w3.heap.size 31 1 u7 acc.length (Own.flat rowK acc vs)):=fun oo=>Own.own_later HO.out.row (Below.new _ _);have hx5:Own.SubO W5 w3.heap.size (.slice AC x.length cc) x:=Own.own_base HS5.out (by omega);have HX5:=zh hx5;clear hx5;go_wp2_with (at_builtin;refine wpList_append_own _ rfl (.tmp 39) (.tmp 41) 98 rfl w3.heap.size 31 i0 _ 1 24 Tryz.underlying98 hi hz0 hz1 hz2 rfl (by decide) _ acc.length _ rfl (hrow.out _) ⟨_,0,none⟩ 1 1 [.slice AC x.length cc] rfl rfl ?m1 ?m2 ?m3 ?m4 ?m5 ?_);all_goals try (first | exact vZ _ #[.slice AC x.length cc] _ _ (by simp) | (simp[Value.oneCell'];done) | (unfold maxLen;omega) | omega | (simp;omega))
        intro v1 w6 hown1 hg1 _;have HN6:Hid (RowsI w6 w3.heap.size v1 (acc++[x])):=by have hX6:Own.SubO (W5.alloc (.cells #[.slice AC x.length cc] 31)) w3.heap.size (.slice AC x.length cc) x:=Own.own_later HX5.out (Below.new _ _);refine⟨vs++[.slice AC x.length cc],Own.OwnL.snoc (HO.out.later (Below.new W5 (.cells #[.slice AC x.length cc] 31))) hX6 HAP.out ?_ hg1 (by decide)⟩;show w6.ownsRow w3.heap.size 31 1 v1 (acc.length+1) (Own.flat rowK acc vs++[.slice AC x.length cc]);rw[hacc];exact hown1
        have HB6:=zh ((HB5.out.later (Below.new W5 (.cells #[.slice AC x.length cc] 31))).grown hg1 (by simp;omega) (fun g hg'=>((hrow.out (.cells #[] 0)).lt g hg').1));clear hown1 hg1;go_wp2_with fail;go_roundw;case rel=>exact⟨k+1,acc++[x],by omega,by go_num,by simp[hacc],HN6.out,HB6.out,HE.out⟩
        case measure=>simp[intOf];omega
    · have HBZ:=zh (HBY.out.setCell (p:=⟨WN.heap.size,0,none⟩) (Nat.le_refl _) (.slice AC (o'.getD []).length cc));have HQ5:Hid (Blk (w4.setCell ⟨WN.heap.size,0,none⟩ (.slice AC (o'.getD []).length cc)) WN.heap.size 31 #[(.slice AC (o'.getD []).length cc)]):=by unfold Hid;have h:=HQ.out.set_ 0 (.slice AC (o'.getD []).length cc);simpa using h
      have HS5:Hid (Own.SubO (w4.setCell ⟨WN.heap.size,0,none⟩ (.slice AC (o'.getD []).length cc)) (WN.alloc (.cells #[.slice none 0 0] 31)).heap.size (.slice AC (o'.getD []).length cc) (o'.getD [])):=Own.sub_far HSUB.out (by simp);have HAPB:WN.heap.size≤(WN.alloc (.cells #[.slice none 0 0] 31)).heap.size:=by simp
      obtain⟨W5,hW5⟩:∃W5,W5=w4.setCell ⟨WN.heap.size,0,none⟩ (.slice AC (o'.getD []).length cc):=⟨_,rfl⟩;rw[←hW5]at HBZ HQ5 HS5 ⊢;clear hW5 HBX HBY HSUB HQ0 HBn q0 qf qz HQ;have HB5:=zh (HB.out.later HBZ.out);have HBv:=zh (HB3.out.later HB5.out);have HRW5:=zh (HRW.out.later HBZ.out);have q5:=HQ5.out.cell 0;have qz5:=HQ5.out.lt;simp at q5;have z35:=HB5.out.size;have z36:=HB.out.size
      cases o' with
      | none =>
        have HE:Hid (R=(14,[])):=by unfold Hid;rw[HR2.out,hS.out,HN.out HFd.out];rfl
        have hcu:zAo (none:Option (List ByteArray))=14:=rfl;rw[hcu];clear q5 qz5;go_wp2_with fail
        go_ret2
        rw[HE.out];exact⟨_,rfl,⟨[],Own.OwnL.nil _ _ _⟩,HBv.out⟩
      | some x =>
        have HE:Hid (zE0 kv ns=(zE0 kv (ns.drop (k+1))).map ((acc++[x])++·)):=by
         unfold Hid;rw[hS.out,HSo.out x HFd.out,Option.map_map]
         congr 1
         funext l
         simp
        have hcu:zAo (some x)=0:=rfl;rw[hcu];have HO:=zh HRW5.out;have HAP:=zh (Own.OwnL.fresh HRW.out HS5.out HAPB);have hrow:Hid (∀oo,(W5.alloc oo).ownsRow w3.heap.size 31 1 u7 acc.length (Own.flat rowK acc vs)):=fun oo=>Own.own_later HO.out.row (Below.new _ _);have hx5:Own.SubO W5 w3.heap.size (.slice AC x.length cc) x:=Own.own_base HS5.out (by simp;omega);have HX5:=zh hx5;clear hx5;go_wp2_with (at_builtin;refine wpList_append_own _ rfl (.tmp 39) (.tmp 41) 98 rfl w3.heap.size 31 i0 _ 1 24 Tryz.underlying98 hi hz0 hz1 hz2 rfl (by decide) _ acc.length _ rfl (hrow.out _) ⟨_,0,none⟩ 1 1 [.slice AC x.length cc] rfl rfl ?n1 ?n2 ?n3 ?n4 ?n5 ?_);all_goals try (first | exact vZ _ #[.slice AC x.length cc] _ _ (by simp) | (simp[Value.oneCell'];done) | (unfold maxLen;omega) | omega | (simp;omega))
        intro v1 w6 hown1 hg1 _;have HN6:Hid (RowsI w6 w3.heap.size v1 (acc++[x])):=by have hX6:Own.SubO (W5.alloc (.cells #[.slice AC x.length cc] 31)) w3.heap.size (.slice AC x.length cc) x:=Own.own_later HX5.out (Below.new _ _);refine⟨vs++[.slice AC x.length cc],Own.OwnL.snoc (HO.out.later (Below.new W5 (.cells #[.slice AC x.length cc] 31))) hX6 HAP.out ?_ hg1 (by decide)⟩;show w6.ownsRow w3.heap.size 31 1 v1 (acc.length+1) (Own.flat rowK acc vs++[.slice AC x.length cc]);rw[hacc];exact hown1
        have HB6:=zh ((HB5.out.later (Below.new W5 (.cells #[.slice AC x.length cc] 31))).grown hg1 (by simp;omega) (fun g hg'=>((hrow.out (.cells #[] 0)).lt g hg').1));clear hown1 hg1;go_wp2_with fail;go_roundw;case rel=>exact⟨k+1,acc++[x],by omega,by go_num,by simp[hacc],HN6.out,HB6.out,HE.out⟩
        case measure=>simp[intOf];omega
  · have HE:Hid (R=(0,acc)):=by unfold Hid;rw[HR2.out,hS.out,List.drop_of_length_le (by rw[HM.out];omega)];simp[zE0]
    go_wp2_with fail
    go_ret2
    rw[HE.out];exact⟨_,rfl,⟨vs,HRW.out.base HB3.out.size⟩,HBw.out⟩
end Go.Proofs.YtgmaamnofhmecaaGreatDoor
namespace Go.Proofs.YtgmaamnofhmecaaGreatDoor
open Go.RowKit
theorem zEJ (cols:List ByteArray) (k:Nat):zBc cols k=(xC (cols.getD k ByteArray.empty)&&zDj cols k):=by
 unfold zBc zDj inS;rw[←zFr]
 congr 1
 rw[Bool.eq_iff_iff];simp only[decide_eq_true_eq,Bool.not_eq_true',decide_eq_false_iff_not];omega
theorem zLo (cols:List ByteArray):wG (zBc cols) 0 cols.length=(zCG cols&&!(cols.any fun s=>!xC s)):=by
 rw[Bool.eq_iff_iff,uO];unfold zCG;rw[Bool.and_eq_true,decide_eq_true_eq,Bool.not_eq_true',List.any_eq_false];constructor
 · intro h;refine⟨fun k hk=>?_,fun s hs=>?_⟩
   · have:=h k (Nat.zero_le _) (by omega);rw[zEJ,Bool.and_eq_true]at this;exact this.2
   · obtain⟨k,hk,rfl⟩:=List.getElem_of_mem hs;have:=h k (Nat.zero_le _) (by omega);rw[zEJ,Bool.and_eq_true,List.getD_eq_getElem?_getD,List.getElem?_eq_getElem hk,Option.getD_some]at this;simp[this.1]
 · rintro⟨h1,h2⟩ k _ hk;rw[zEJ,Bool.and_eq_true];refine⟨?_,h1 k (by omega)⟩
   have:=h2 (cols.getD k ByteArray.empty) (by
    have hk':k<cols.length:=by omega
    rw[List.getD_eq_getElem?_getD,List.getElem?_eq_getElem hk'];simp)
   simpa using this
theorem zHg (cols:List ByteArray):∀(l:List ByteArray) (m:Int),zAl cols l m=true→m<cols.length→m+l.length<cols.length
 | [],m,_,h=>by simpa using h
 | x::r,m,h,hm=>by rw[zAl,Bool.and_eq_true,decide_eq_true_eq]at h;have hb:=xJ cols x;have:=zHg cols r (wA cols x) h.2 hb.2;simp only[List.length_cons];omega
def zLE (d:TableD):Bool:=xC d.name&&(xC d.glob&&(inB d.cols.length 1 5&&(zCG d.cols&&(!(d.cols.any fun s=>!xC s)&&zAl d.cols d.idx 0))))
theorem zKW (d:TableD):zLE d=zF0 d:=by
 unfold zLE zF0
 congr 1
 congr 1
 rw[zLo];by_cases h1:1≤d.cols.length
 · by_cases h5:d.cols.length≤5
   · have hi:inB d.cols.length 1 5=true:=by unfold inB;rw[decide_eq_true (show(1:Int)≤d.cols.length by omega),decide_eq_true (show(d.cols.length:Int)≤5 by omega)];rfl
     rw[hi,decide_eq_true h1,decide_eq_true h5];cases hx:zAl d.cols d.idx 0
     · simp
     · have:=zHg d.cols d.idx 0 hx (by omega);rw[decide_eq_true (show d.idx.length<d.cols.length by omega)];simp
   · have hi:inB d.cols.length 1 5=false:=by unfold inB;rw[decide_eq_false (show ¬(d.cols.length:Int)≤5 by omega)];simp
     rw[hi,decide_eq_false h5];simp
 · have hi:inB d.cols.length 1 5=false:=by unfold inB;rw[decide_eq_false (show ¬(1:Int)≤d.cols.length by omega)];rfl
   rw[hi,decide_eq_false h1];rfl
set_option maxRecDepth 100000 in
theorem zDF (c0 c1 c2 c3:Value) (d:TableD) (w:World) (h:TableR w w.heap.size c0 c1 c2 c3 d) (hs:d.small) :
 Calls Tryz.prog 126 #[.agg #[c0,c1,c2,c3]] w fun e w'=>e=.returned (.bool (zF0 d))∧Below w.heap.size w w':=by
 obtain⟨rfl,rfl,⟨A2,n2,p2,rfl,s2,k2⟩,⟨A3,n3,p3,rfl,s3,k3⟩⟩:=h;obtain⟨f0,f1,⟨f2,f2'⟩,⟨f3,f3'⟩⟩:=hs;have hn2:n2≤1048576:=by rw[←s2.1];exact f2
 have hn3:n3≤1048576:=by rw[←s3.1];exact f3
 have HR:Hid (zF0 d=(xC d.name&&(xC d.glob&&(inB n2 1 5&&(zCG d.cols&&(!(d.cols.any fun s=>!xC s)&&zAl d.cols d.idx 0)))))):=by unfold Hid;rw[←zKW];unfold zLE;rw[s2.1]
 have HK0:=zh (fun W=>zBb d.name W f0);have HK1:=zh (fun W=>zBb d.glob W f1);have HKc:=zh (fun W=>zIt A2 n2 p2 W hn2);have HKw:=zh (fun W=>zGs (n2:Int) 1 5 W);have HKd:=zh (fun W (hW:Below w.heap.size w W)=>zGb A2 n2 p2 d.cols W (s2.later hW) hn2);have HKf:=zh (fun W (hW:Below w.heap.size w W)=>zAk 196 #[] (fun s=>!xC s) A2 n2 p2 d.cols W (s2.later hW) hn2 (enters_of Tryz.func196 (by kernel_rfl) rfl) (fun s hs=>zGl s W (f2' s hs)));have HKi:=zh (fun W (hW:Below w.heap.size w W) (x:ByteArray)=>zET A2 n2 p2 d.cols x W (s2.later hW) hn2);have HS3:=zh s3;have HL2:=zh s2.1;clear s2 s3 f2' f3' f2 f3 f0 f1;have HB0:=zh (Below.new w (.cells #[.string d.name,.string d.glob,.slice A2 n2 p2,.slice A3 n3 p3] 29));generalize zF0 d=R at *;generalize xC d.name=x0 at *;generalize xC d.glob=x1 at *;generalize inB n2 1 5=x2 at *;generalize zCG d.cols=x3 at *;generalize (d.cols.any fun s=>!xC s)=x4 at *;generalize d.name=nm at *;generalize d.glob=gl at *;generalize d.cols=cols at *;generalize d.idx=idx at *;go_enter Tryz.func126,Tryz.ntmps126;go_wp2_with fail;refine(HK0.out _).mono ?_;rintro e w1 ⟨rfl,rfl⟩;cases x0
 · have HE:Hid (R=false):=by unfold Hid;rw[HR.out];rfl
   go_wp2_with fail;go_ret;exact⟨zA0 HE.out.symm,HB0.out⟩
 go_wp2_with fail;refine(HK1.out _).mono ?_;rintro e w1 ⟨rfl,rfl⟩;cases x1
 · have HE:Hid (R=false):=by unfold Hid;rw[HR.out];rfl
   go_wp2_with fail;go_ret;exact⟨zA0 HE.out.symm,HB0.out⟩
 go_wp2_with fail;refine(HKc.out _).mono ?_;rintro e w1 ⟨rfl,rfl⟩;go_wp2_with fail;refine(HKw.out _).mono ?_;rintro e w1 ⟨rfl,rfl⟩;cases x2
 · have HE:Hid (R=false):=by unfold Hid;rw[HR.out];rfl
   go_wp2_with fail;go_ret;exact⟨zA0 HE.out.symm,HB0.out⟩
 go_wp2_with fail;refine(HKd.out _ HB0.out).mono ?_;rintro e w1 ⟨rfl,hb1⟩;have px:=(Blk.later (heap_alloc_new w _) hb1 (by simp)).cell;have hz1:w.heap.size<w1.heap.size:=by have:=hb1.size;simp at this;omega
 have HB1:=zh (HB0.out.later hb1);clear hb1;cases x3
 · have HE:Hid (R=false):=by unfold Hid;rw[HR.out];rfl
   go_wp2_with fail;go_ret;exact⟨zA0 HE.out.symm,HB1.out⟩
 go_wp2_with fail;refine(HKf.out _ HB1.out).mono ?_;rintro e w2 ⟨rfl,rfl⟩;cases x4
 case true =>
  have HE:Hid (R=false):=by unfold Hid;rw[HR.out];rfl
  go_wp2_with fail;go_ret;exact⟨zA0 HE.out.symm,HB1.out⟩
 have HE:Hid (R=zAl cols (idx.drop 0) 0):=by unfold Hid;rw[HR.out];rfl
 go_wp2_with fail;go_loopw [3,36] (fun l i wr=>∃(j:Nat) (m:Int),j≤n3∧i=.int .i64 j∧l=.int .i64 m∧0≤m∧m≤1048576∧wr=w1∧Hid (R=zAl cols (idx.drop j) m)) (fun _ i _=>n3-(intOf i).toNat);case atStart=>exact⟨0,0,Nat.zero_le _,rfl,rfl,by omega,by omega,rfl,HE.out⟩
 case round =>
  obtain⟨j,m,hj,rfl,rfl,hm0,hm1,rfl,hS2⟩:=hrel;by_cases hltj:j<n3
  · obtain⟨b,o,rfl,hb,hcell⟩:=(HS3.out.later HB1.out).2 (by omega);have hck:=hcell j hltj;clear hcell;have hl:j<idx.length:=by rw[HS3.out.1];exact hltj
    have HSt:=zh (zFA cols idx j m hl);have HKp:=zh (HKi.out _ HB1.out (idx.getD j ByteArray.empty));have hbd:=xJ cols (idx.getD j ByteArray.empty);rw[HL2.out]at hbd;clear hl;generalize idx.getD j ByteArray.empty=s at *;generalize wA cols s=y at *;go_wp2_with fail;refine HKp.out.mono ?_;rintro e w2 ⟨rfl,rfl⟩;by_cases hy:y≤m
    · have HE3:Hid (R=false):=by unfold Hid;rw[hS2.out,HSt.out,decide_eq_false (show ¬m<y by omega)];rfl
      go_wp2_with fail;go_ret;exact⟨zA0 HE3.out.symm,HB1.out⟩
    · have HE3:Hid (R=zAl cols (idx.drop (j+1)) y):=by unfold Hid;rw[hS2.out,HSt.out,decide_eq_true (show m<y by omega)];rfl
      go_wp2_with fail;go_roundw;case rel=>exact⟨j+1,y,by omega,by go_num,rfl,by omega,by omega,(by first | rfl | trivial),HE3.out⟩
      case measure=>simp[intOf];omega
  · have HE3:Hid (R=true):=by unfold Hid;rw[hS2.out,List.drop_of_length_le (by rw[HS3.out.1];omega)];rfl
    go_wp2_with fail;go_ret;exact⟨zA0 HE3.out.symm,HB1.out⟩
end Go.Proofs.YtgmaamnofhmecaaGreatDoor
