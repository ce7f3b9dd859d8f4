import Derived.Test.YtgmaamnofhmecaaGreatDoorV18
import Derived.Test.YtgmaamnofhmecaaGreatDoorV13
import Derived.Test.YtgmaamnofhmecaaGreatDoorV23
import Derived.Test.YtgmaamnofhmecaaGreatDoorV16
import Derived.Test.YtgmaamnofhmecaaGreatDoorV00
import Derived.Deep.RegionHeld3
open Go.Lib renaming hid → zh
namespace Go.Proofs.YtgmaamnofhmecaaGreatDoor
open Go.RowKit
def rowK:Own.Kind (List ByteArray):=⟨1,fun _ v=>[v],fun d=>d,fun _ _=>rfl,by decide⟩
def RowsI (w:World) (base:Nat) (v:Value) (rs:List (List ByteArray)):Prop:=∃vs,Own.OwnL rowK w base 31 v rs vs
theorem RowsI.base {w:World} {base base':Nat} {v:Value} {rs:List (List ByteArray)} (h:RowsI w base' v rs) (hb:base≤base'):RowsI w base v rs:=by
 obtain⟨vs,h1⟩:=h;exact⟨vs,h1.base hb⟩
def zE0 (f:NodeD→Option (List ByteArray)):List NodeD→Option (List (List ByteArray))
 | []=>some []
 | d::r=>match f d with
   | none=>none
   | some x=>(zE0 f r).map (x::·)
theorem zDr (f:NodeD→Option (List ByteArray)) (l:List NodeD) (k:Nat) (h:k<l.length) (hf:f (l.getD k default)=none):zE0 f (l.drop k)=none:=by
 rw[List.drop_eq_getElem_cons h];rw[List.getD_eq_getElem?_getD,List.getElem?_eq_getElem h]at hf;simp only[Option.getD_some]at hf;simp[zE0,hf]
theorem zDq (f:NodeD→Option (List ByteArray)) (l:List NodeD) (k:Nat) (h:k<l.length) {x:List ByteArray} (hf:f (l.getD k default)=some x):zE0 f (l.drop k)=(zE0 f (l.drop (k+1))).map (x::·):=by
 rw[List.drop_eq_getElem_cons h];rw[List.getD_eq_getElem?_getD,List.getElem?_eq_getElem h]at hf;simp only[Option.getD_some]at hf;simp[zE0,hf]
def zAQ (cols:List ByteArray) (d:NodeD):Option (List ByteArray):=yF cols (d.subs.getD 1 ByteArray.empty) d.val
def uB (cols:List ByteArray) (ns:List NodeD):Int × List (List ByteArray) :=
 if 24<ns.length then (4,[]) else match zE0 (zAQ cols) ns with
  | none=>(14,[])
  | some rs=>(0,rs)
def zAF (r:Int × List (List ByteArray)) (w:World) (e:Ending) (w':World):Prop:=∃v,e=.returned (.tuple #[v,.int .i64 r.1])∧RowsI w' w.heap.size v r.2∧Below w.heap.size w w'
theorem zEu:(Tryz.prog.info? 31).map (fun i=>(i.zero,i.size,i.bytes))=some (some (.agg #[.slice none 0 0]),1,24):=by kernel_rfl
theorem zAt (w:World) (base:Nat) (h:base≤w.heap.size):RowsI (w.alloc (.cells #[] 31)) base (.slice (some ⟨w.heap.size,0,none⟩) 0 0) [] :=
 ⟨[],rfl,(by simpa using World.ownsRow_lit (base:=base) (e:=31) (size:=1) w #[] 0 h (by omega) rfl:(w.alloc (.cells #[] 31)).ownsRow base 31 1 (.slice (some ⟨w.heap.size,0,none⟩) 0 0) 0 []),fun j hj=>by simp at hj,List.Pairwise.nil⟩
theorem zBE {fs:List NodeD} (h:xA fs=true):∀d∈fs,d.val.size≤64:=by
 intro d hd;obtain⟨i,hi,rfl⟩:=List.getElem_of_mem hd;unfold xA at h;rw[Bool.and_eq_true]at h;have h2:=(uO (vJ fs) fs.length 0).1 h.2 i (by omega) (by omega);unfold vJ yY at h2;simp only[Bool.and_eq_true,decide_eq_true_eq]at h2;rw[List.getD_eq_getElem?_getD,List.getElem?_eq_getElem hi]at h2;exact h2.1.2
theorem zAs {g:ByteArray} {fs:List NodeD} {d:NodeD} (h:d∈yA g fs):d∈fs:=by
 unfold yA at h;exact(List.mem_filter.1 h).1
set_option maxRecDepth 100000 in
set_option maxHeartbeats 4000000 in
theorem zDy (A:Option Addr) (n c:Nat) (b0 b1 b2 b3:Value) (fs:List NodeD) (b:TableD) (w:World) (h:Nodes w w.heap.size A n fs) (hb:TableR w w.heap.size b0 b1 b2 b3 b) (hs:wB fs) (ht:xA fs=true) (hpos:0<b.cols.length) (hn5:b.cols.length≤5) :
 Calls Tryz.prog 63 #[.agg #[.slice A n c],.agg #[b0,b1,b2,b3]] w (zAF (uB b.cols (yA b.glob fs)) w):=by
 obtain⟨i0,hi,hz0,hz1,hz2⟩:=info_parts zEu;have HK3:=zh (fun W (hW:Below w.heap.size w W)=>zAL A n c b0 b1 b2 b3 fs b W (h.later hW) (hb.later hW) hs);have HKU:=zh (fun W (hW:Below w.heap.size w W) key val hk hv=>zBU b0 b1 b2 b3 b key val W (hb.later hW) hpos hn5 hk hv);have HNV:Hid (∀d∈yA b.glob fs,d.subs.length=2∧(∀s∈d.subs,s.size≤1048576)∧d.val.size≤64):=fun d hd=>⟨zBk d hd,(hs.2 d (zAs hd)).2.1.2,zBE ht d (zAs hd)⟩;have HR:Hid (uB b.cols (yA b.glob fs)=(if 24<(yA b.glob fs).length then ((4:Int),[]) else match zE0 (zAQ b.cols) (yA b.glob fs) with | none=>((14:Int),[]) | some rs=>((0:Int),rs))):=rfl;have HF:Hid (∀d,zAQ b.cols d=yF b.cols (d.subs.getD 1 ByteArray.empty) d.val):=fun _=>rfl;obtain⟨rfl,rfl,⟨A2,n2,p2,rfl,s2,k2⟩,⟨A3,n3,p3,rfl,s3,k3⟩⟩:=hb;clear s2 s3 h hs ht hpos hn5;generalize uB b.cols (yA b.glob fs)=R at *;generalize yA b.glob fs=ns at *;generalize yF b.cols=up at *;generalize zAQ b.cols=kv at *;generalize b.name=nm at *;generalize b.glob=gl at *;have HB0:=zh ((Below.new w (.cells #[.slice A n c] 26)).later (Below.new _ (.cells #[.string nm,.string gl,.slice A2 n2 p2,.slice A3 n3 p3] 29)));have HX1:=zh (xB w (.cells #[.slice A n c] 26) (.cells #[.string nm,.string gl,.slice A2 n2 p2,.slice A3 n3 p3] 29));go_enter Tryz.func63,Tryz.ntmps63;go_wp2_with fail;refine(HK3.out _ HB0.out).mono ?_;rintro e w3 ⟨v,ncs,rfl,ho,hc,hb3⟩;obtain⟨A4,cap4,rfl,_,hN4⟩:=uI ho rfl hc hb3;have HN4:=zh hN4;have HB3:=zh (HB0.out.later hb3);have HY1:=zh (Blk.later HX1.out hb3 (by simp));have hw3:=HY1.out.lt;clear ho hc hb3 hN4;generalize hm:ns.length=m at *;have HM:=zh hm;clear hm;by_cases hbig:24<m
 · have HE:Hid (R=(4,[])):=by unfold Hid;rw[HR.out,if_pos hbig]
   go_wp2_with fail
   go_ret2
   rw[HE.out];exact⟨_,rfl,zAt w3 w.heap.size HB3.out.size,HB3.out.later (Below.new _ _)⟩
 have HR2:Hid (R=match zE0 kv ns with | none=>((14:Int),[]) | some rs=>((0:Int),rs)):=by unfold Hid;rw[HR.out,if_neg hbig]
 clear HR;go_wp2_with fail;go_loopw [7,8] (fun v i wr=>∃(k:Nat) (acc:List (List ByteArray)),k≤m∧i=.int .i64 k∧acc.length=k∧RowsI wr w3.heap.size v acc∧Below w3.heap.size w3 wr∧Hid (zE0 kv ns=(zE0 kv (ns.drop k)).map (acc++·))) (fun _ i _=>m-(intOf i).toNat);case atStart=>exact⟨0,[],Nat.zero_le _,rfl,rfl,zAt w3 _ (Nat.le_refl _),Below.new _ _,by simp[Hid]⟩
 case round =>
  obtain⟨k,acc,hk,rfl,hacc,hrows,hb,hS⟩:=hrel;have HB:=zh hb;obtain⟨vs,hrows⟩:=hrows;have HRW:=zh hrows;have HBw:=zh (HB3.out.later hb);clear hb hrows;by_cases hlt:k<m
  · have hl:k<ns.length:=by rw[HM.out];exact hlt
    obtain⟨bb,o,rfl,hbB,hcn⟩:=(HN4.out.later HB.out).2 (by omega);obtain⟨c0,c1,c2,k0,k1,k2',hr⟩:=hcn k hlt;clear hcn;obtain⟨hd2,hds,hdv⟩:=HNV.out _ (xD ns k hl);have HN:=zh (zDr kv ns k hl);have HSo:=zh (fun x=>zDq kv ns k hl (x:=x));have HFd:=zh (HF.out (ns.getD k default));clear hl;generalize ns.getD k default=d at *;obtain⟨rfl,⟨A1,n1,cap1,rfl,hs1,hcap1⟩,rfl⟩:=hr;obtain rfl:n1=2:=by rw[←hs1.1];exact hd2
    obtain⟨sb,so,rfl,hsb,hsc⟩:=hs1.2 (by omega);have hck:=hsc 1 (by omega);have HKK:=zh (fun W hW=>HKU.out W hW (d.subs.getD 1 ByteArray.empty) d.val (hds _ (vK _ _ (by omega))) hdv);clear hsc hs1 hds hdv hd2 k0;have y0:=(HY1.out.later HB.out hw3).cell 0;have y1:=(HY1.out.later HB.out hw3).cell 1;have y2:=(HY1.out.later HB.out hw3).cell 2;have y3:=(HY1.out.later HB.out hw3).cell 3;simp at y0 y1 y2 y3;have i1:(k:Int)<(m:Int):=by omega
    generalize d.subs.getD 1 ByteArray.empty=key at *;generalize d.val=val at *;generalize up key val=o' at *;have HQ0:Hid (Blk (wr.alloc (.cells #[.slice none 0 0] 31)) wr.heap.size 31 #[.slice none 0 0]):=wF rfl;have HBn:=zh (HBw.out.later (Below.new wr (.cells #[.slice none 0 0] 31)));have HS:Hid (∀W',Below wr.heap.size wr W'→(W'.cell? ⟨w.heap.size+1,0,none⟩=some (.string nm)∧W'.cell? ⟨w.heap.size+1,1,none⟩=some (.string gl)∧W'.cell? ⟨w.heap.size+1,2,none⟩=some (.slice A2 n2 p2)∧W'.cell? ⟨w.heap.size+1,3,none⟩=some (.slice A3 n3 p3)∧W'.cell? ⟨bb,o+k*3+1,none⟩=some (.slice (some ⟨sb,so,none⟩) 2 cap1)∧W'.cell? ⟨bb,o+k*3+2,none⟩=some (.string val)∧W'.cell? ⟨sb,so+1,none⟩=some (.string key))):=fun W' hW=>⟨cell_later hW y0,cell_later hW y1,cell_later hW y2,cell_later hW y3,cell_later hW k1,cell_later hW k2',cell_later hW hck⟩;go_wp2_with fail
    go_region_held3 (fun w'=>w'.cell? ⟨w.heap.size+1,0,none⟩=some (.string nm)∧w'.cell? ⟨w.heap.size+1,1,none⟩=some (.string gl)∧w'.cell? ⟨w.heap.size+1,2,none⟩=some (.slice A2 n2 p2)∧w'.cell? ⟨w.heap.size+1,3,none⟩=some (.slice A3 n3 p3)∧w'.cell? ⟨bb,o+k*3+1,none⟩=some (.slice (some ⟨sb,so,none⟩) 2 cap1)∧w'.cell? ⟨bb,o+k*3+2,none⟩=some (.string val)∧w'.cell? ⟨sb,so+1,none⟩=some (.string key)) (first | exact HS.out _ (Below.refl _ _).drew | exact HS.out _ (Below.new _ _).drew | exact HS.out _ HBY.out | exact HS.out _ (HBY.out.later (Below.new _ _)) | exact HS.out _ (HBY.out.setCell (Nat.le_refl _) _))
     (first
       | (go_at_call 137;refine(HKK.out _ HBw.out.drew).mono ?_;rintro e w4 ⟨v',rfl,hsub,hb4'⟩;obtain⟨AC,cc,rfl,hcc,hmc,hac⟩:=Own.own_slice hsub;have HSUB:=zh hsub;have HBX:=zh (zD0 hb4');have HBY:=zh HBX.out;clear hsub hb4' hac)
       | (go_at_call 137;refine(HKK.out _ HBn.out.drew).mono ?_;rintro e w4 ⟨v',rfl,hsub,hb4'⟩;obtain⟨AC,cc,rfl,hcc,hmc,hac⟩:=Own.own_slice hsub;have HSUB:=zh hsub;have HBX:=zh (zD0 hb4');have HBY:=zh ((Below.new wr (.cells #[.slice none 0 0] 31)).later HBX.out);have HQ:=zh (Blk.later HQ0.out HBX.out (by simp));have q0:=(Blk.cell HQ.out 0);have qf:=Blk.frozen HQ.out 0;have qz:=Blk.lt HQ.out;simp at q0;clear hsub hb4' hac))
    · have HBZ:=zh (HBX.out.later (Below.new w4 (.cells #[(.slice AC (o'.getD []).length cc)] 31)));have HQ5:Hid (Blk (w4.alloc (.cells #[(.slice AC (o'.getD []).length cc)] 31)) w4.heap.size 31 #[(.slice AC (o'.getD []).length cc)]):=wF rfl;have HS5:Hid (Own.SubO (w4.alloc (.cells #[(.slice AC (o'.getD []).length cc)] 31)) wr.heap.size (.slice AC (o'.getD []).length cc) (o'.getD [])):=Own.own_later HSUB.out (Below.new _ _);have HAPB:wr.heap.size≤wr.heap.size:=Nat.le_refl _;obtain⟨W5,hW5⟩:∃W5,W5=w4.alloc (.cells #[(.slice AC (o'.getD []).length cc)] 31):=⟨_,rfl⟩;rw[←hW5]at HBZ HQ5 HS5 ⊢;clear hW5 HBX HBY HSUB HQ0 HBn;have HB5:=zh (HB.out.later HBZ.out);have HBv:=zh (HB3.out.later HB5.out);have HRW5:=zh (HRW.out.later HBZ.out);have q5:=HQ5.out.cell 0;have qz5:=HQ5.out.lt;simp at q5;have z35:=HB5.out.size;have z36:=HB.out.size
      cases o' with
      | none =>
        have HE:Hid (R=(14,[])):=by unfold Hid;rw[HR2.out,hS.out,HN.out HFd.out];rfl
        have hcu:zAo (none:Option (List ByteArray))=14:=rfl;rw[hcu];clear q5 qz5;go_wp2_with fail
        go_ret2
        rw[HE.out];exact⟨_,rfl,zAt _ _ HBv.out.size,HBv.out.later (Below.new _ _)⟩
      | some x =>
        have HE:Hid (zE0 kv ns=(zE0 kv (ns.drop (k+1))).map ((acc++[x])++·)):=by
         unfold Hid;rw[hS.out,HSo.out x HFd.out,Option.map_map]
         congr 1
         funext l
         simp
        have hcu:zAo (some x)=0:=rfl;rw[hcu];have HO:=zh HRW5.out;have HAP:=zh (Own.OwnL.fresh HRW.out HS5.out HAPB);have hrow:Hid (∀oo,(W5.alloc oo).ownsRow w3.heap.size 31 1 u7 acc.length (Own.flat rowK acc vs)):=fun oo=>Own.own_later HO.out.row (Below.new _ _);have hx5:Own.SubO W5 w3.heap.size (.slice AC x.length cc) x:=Own.own_base HS5.out (by omega);have HX5:=zh hx5;clear hx5;go_wp2_with (at_builtin;refine wpList_append_own _ rfl (.tmp 46) (.tmp 48) 98 rfl w3.heap.size 31 i0 _ 1 24 Tryz.underlying98 hi hz0 hz1 hz2 rfl (by decide) _ acc.length _ rfl (hrow.out _) ⟨_,0,none⟩ 1 1 [.slice AC x.length cc] rfl rfl ?m1 ?m2 ?m3 ?m4 ?m5 ?_);all_goals try (first | exact vZ _ #[.slice AC x.length cc] _ _ (by simp) | (simp[Value.oneCell'];done) | (unfold maxLen;omega) | omega | (simp;omega))
        intro v1 w6 hown1 hg1 _;have HN6:Hid (RowsI w6 w3.heap.size v1 (acc++[x])):=by have hX6:Own.SubO (W5.alloc (.cells #[.slice AC x.length cc] 31)) w3.heap.size (.slice AC x.length cc) x:=Own.own_later HX5.out (Below.new _ _);refine⟨vs++[.slice AC x.length cc],Own.OwnL.snoc (HO.out.later (Below.new W5 (.cells #[.slice AC x.length cc] 31))) hX6 HAP.out ?_ hg1 (by decide)⟩;show w6.ownsRow w3.heap.size 31 1 v1 (acc.length+1) (Own.flat rowK acc vs++[.slice AC x.length cc]);rw[hacc];exact hown1
        have HB6:=zh ((HB5.out.later (Below.new W5 (.cells #[.slice AC x.length cc] 31))).grown hg1 (by simp;omega) (fun g hg'=>((hrow.out (.cells #[] 0)).lt g hg').1));clear hown1 hg1;go_wp2_with fail;go_roundw;case rel=>exact⟨k+1,acc++[x],by omega,by go_num,by simp[hacc],HN6.out,HB6.out,HE.out⟩
        case measure=>simp[intOf];omega
    · have HBZ:=zh (HBY.out.setCell (p:=⟨wr.heap.size,0,none⟩) (Nat.le_refl _) (.slice AC (o'.getD []).length cc));have HQ5:Hid (Blk (w4.setCell ⟨wr.heap.size,0,none⟩ (.slice AC (o'.getD []).length cc)) wr.heap.size 31 #[(.slice AC (o'.getD []).length cc)]):=by unfold Hid;have h:=HQ.out.set_ 0 (.slice AC (o'.getD []).length cc);simpa using h
      have HS5:Hid (Own.SubO (w4.setCell ⟨wr.heap.size,0,none⟩ (.slice AC (o'.getD []).length cc)) (wr.alloc (.cells #[.slice none 0 0] 31)).heap.size (.slice AC (o'.getD []).length cc) (o'.getD [])):=Own.sub_far HSUB.out (by simp);have HAPB:wr.heap.size≤(wr.alloc (.cells #[.slice none 0 0] 31)).heap.size:=by simp
      obtain⟨W5,hW5⟩:∃W5,W5=w4.setCell ⟨wr.heap.size,0,none⟩ (.slice AC (o'.getD []).length cc):=⟨_,rfl⟩;rw[←hW5]at HBZ HQ5 HS5 ⊢;clear hW5 HBX HBY HSUB HQ0 HBn q0 qf qz HQ;have HB5:=zh (HB.out.later HBZ.out);have HBv:=zh (HB3.out.later HB5.out);have HRW5:=zh (HRW.out.later HBZ.out);have q5:=HQ5.out.cell 0;have qz5:=HQ5.out.lt;simp at q5;have z35:=HB5.out.size;have z36:=HB.out.size
      cases o' with
      | none =>
        have HE:Hid (R=(14,[])):=by unfold Hid;rw[HR2.out,hS.out,HN.out HFd.out];rfl
        have hcu:zAo (none:Option (List ByteArray))=14:=rfl;rw[hcu];clear q5 qz5;go_wp2_with fail
        go_ret2
        rw[HE.out];exact⟨_,rfl,zAt _ _ HBv.out.size,HBv.out.later (Below.new _ _)⟩
      | some x =>
        have HE:Hid (zE0 kv ns=(zE0 kv (ns.drop (k+1))).map ((acc++[x])++·)):=by
         unfold Hid;rw[hS.out,HSo.out x HFd.out,Option.map_map]
         congr 1
         funext l
         simp
        have hcu:zAo (some x)=0:=rfl;rw[hcu];have HO:=zh HRW5.out;have HAP:=zh (Own.OwnL.fresh HRW.out HS5.out HAPB);have hrow:Hid (∀oo,(W5.alloc oo).ownsRow w3.heap.size 31 1 u7 acc.length (Own.flat rowK acc vs)):=fun oo=>Own.own_later HO.out.row (Below.new _ _);have hx5:Own.SubO W5 w3.heap.size (.slice AC x.length cc) x:=Own.own_base HS5.out (by simp;omega);have HX5:=zh hx5;clear hx5;go_wp2_with (at_builtin;refine wpList_append_own _ rfl (.tmp 46) (.tmp 48) 98 rfl w3.heap.size 31 i0 _ 1 24 Tryz.underlying98 hi hz0 hz1 hz2 rfl (by decide) _ acc.length _ rfl (hrow.out _) ⟨_,0,none⟩ 1 1 [.slice AC x.length cc] rfl rfl ?n1 ?n2 ?n3 ?n4 ?n5 ?_);all_goals try (first | exact vZ _ #[.slice AC x.length cc] _ _ (by simp) | (simp[Value.oneCell'];done) | (unfold maxLen;omega) | omega | (simp;omega))
        intro v1 w6 hown1 hg1 _;have HN6:Hid (RowsI w6 w3.heap.size v1 (acc++[x])):=by have hX6:Own.SubO (W5.alloc (.cells #[.slice AC x.length cc] 31)) w3.heap.size (.slice AC x.length cc) x:=Own.own_later HX5.out (Below.new _ _);refine⟨vs++[.slice AC x.length cc],Own.OwnL.snoc (HO.out.later (Below.new W5 (.cells #[.slice AC x.length cc] 31))) hX6 HAP.out ?_ hg1 (by decide)⟩;show w6.ownsRow w3.heap.size 31 1 v1 (acc.length+1) (Own.flat rowK acc vs++[.slice AC x.length cc]);rw[hacc];exact hown1
        have HB6:=zh ((HB5.out.later (Below.new W5 (.cells #[.slice AC x.length cc] 31))).grown hg1 (by simp;omega) (fun g hg'=>((hrow.out (.cells #[] 0)).lt g hg').1));clear hown1 hg1;go_wp2_with fail;go_roundw;case rel=>exact⟨k+1,acc++[x],by omega,by go_num,by simp[hacc],HN6.out,HB6.out,HE.out⟩
        case measure=>simp[intOf];omega
  · have HE:Hid (R=(0,acc)):=by unfold Hid;rw[HR2.out,hS.out,List.drop_of_length_le (by rw[HM.out];omega)];simp[zE0]
    go_wp2_with fail
    go_ret2
    rw[HE.out];exact⟨_,rfl,⟨vs,HRW.out.base HB3.out.size⟩,HBw.out⟩
end Go.Proofs.YtgmaamnofhmecaaGreatDoor
namespace Go.Proofs.YtgmaamnofhmecaaGreatDoor
open Go.RowKit
def RowsRd (w:World) (B:Nat) (A:Option Addr) (n:Nat) (rs:List (List ByteArray)):Prop :=
 rs.length=n∧(0<n→∃b o,A=some ⟨b,o,none⟩∧b<B∧∀j,j<n→∃v,w.cell? ⟨b,o+j,none⟩=some v∧RowR w B v (rs.getD j default))
theorem RowsRd.later {w w':World} {A:Option Addr} {n:Nat} {rs:List (List ByteArray)} (h:RowsRd w w.heap.size A n rs) (hb:Below w.heap.size w w'):RowsRd w' w'.heap.size A n rs :=
 ⟨h.1,fun hn=>by
   obtain⟨b,o,e,hbb,hc⟩:=h.2 hn;refine⟨b,o,e,Nat.lt_of_lt_of_le hbb hb.size,fun j hj=>?_⟩;obtain⟨v,h0,hr⟩:=hc j hj
   exact⟨v,(hb.cell (p:=⟨b,o+j,none⟩) hbb).trans h0,hr.later hb⟩⟩
end Go.Proofs.YtgmaamnofhmecaaGreatDoor
