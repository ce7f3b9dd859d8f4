import Derived.Test.YtfpcjhajjejpdaaGreatDoorZ13
import Derived.Test.YtfpcjhajjejpdaaGreatDoorZ16
import Derived.Test.YtfpcjhajjejpdaaGreatDoorZ01
import Derived.Deep.RegionHeld3
set_option maxHeartbeats 4000000
open Go.Lib renaming hid → zh
namespace Go.Proofs.YtfpcjhajjejpdaaGreatDoor
open Go.RowKit
def rowK:Own.Kind (List ByteArray):=⟨1,fun _ v=>[v],fun d=>d,fun _ _=>rfl,by decide⟩
def RowsI (w:World) (base:Nat) (v:Value) (rs:List (List ByteArray)):Prop:=∃vs,Own.OwnL rowK w base 40 v rs vs
theorem RowsI.base {w:World} {base base':Nat} {v:Value} {rs:List (List ByteArray)} (h:RowsI w base' v rs) (hb:base≤base'):RowsI w base v rs:=by
 obtain⟨vs,h1⟩:=h;exact⟨vs,h1.base hb⟩
def wE (f:NodeD→Option (List ByteArray)):List NodeD→Option (List (List ByteArray))
 | []=>some []
 | d::r=>match f d with
   | none=>none
   | some x=>(wE f r).map (x::·)
theorem zCW (f:NodeD→Option (List ByteArray)) (l:List NodeD) (k:Nat) (h:k<l.length) (hf:f (l.getD k default)=none):wE f (l.drop k)=none:=by
 rw[List.drop_eq_getElem_cons h];rw[List.getD_eq_getElem?_getD,List.getElem?_eq_getElem h]at hf;simp only[Option.getD_some]at hf;simp[wE,hf]
theorem zCV (f:NodeD→Option (List ByteArray)) (l:List NodeD) (k:Nat) (h:k<l.length) {x:List ByteArray} (hf:f (l.getD k default)=some x):wE f (l.drop k)=(wE f (l.drop (k+1))).map (x::·):=by
 rw[List.drop_eq_getElem_cons h];rw[List.getD_eq_getElem?_getD,List.getElem?_eq_getElem h]at hf;simp only[Option.getD_some]at hf;simp[wE,hf]
def zDY (cols:List ByteArray) (d:NodeD):Option (List ByteArray):=uH cols (d.subs.getD 1 ByteArray.empty) d.val
def yI (cols:List ByteArray) (ns:List NodeD):Int × List (List ByteArray) :=
 if 24<ns.length then (4,[]) else match wE (zDY cols) ns with
  | none=>(14,[])
  | some rs=>(0,rs)
def zAA (r:Int × List (List ByteArray)) (w:World) (e:Ending) (w':World):Prop:=∃v,e=.returned (.tuple #[v,.int .i64 r.1])∧RowsI w' w.heap.size v r.2∧Below w.heap.size w w'
theorem xZ:(Tryz.prog.info? 40).map (fun i=>(i.zero,i.size,i.bytes))=some (some (.agg #[.slice none 0 0]),1,24):=by kernel_rfl
theorem vM (w:World) (base:Nat) (h:base≤w.heap.size):RowsI (w.alloc (.cells #[] 40)) base (.slice (some ⟨w.heap.size,0,none⟩) 0 0) [] :=
 ⟨[],rfl,(by simpa using World.ownsRow_lit (base:=base) (e:=40) (size:=1) w #[] 0 h (by omega) rfl:(w.alloc (.cells #[] 40)).ownsRow base 40 1 (.slice (some ⟨w.heap.size,0,none⟩) 0 0) 0 []),fun j hj=>by simp at hj,List.Pairwise.nil⟩
theorem zCu {fs:List NodeD} (h:uA fs=true):∀d∈fs,d.val.size≤64:=by
 intro d hd;obtain⟨i,hi,rfl⟩:=List.getElem_of_mem hd;unfold uA at h;rw[Bool.and_eq_true]at h;have h2:=(wO (zJ0 fs) fs.length 0).1 h.2 i (by omega) (by omega);unfold zJ0 yZ at h2;simp only[Bool.and_eq_true,decide_eq_true_eq]at h2;rw[List.getD_eq_getElem?_getD,List.getElem?_eq_getElem hi]at h2;exact h2.1.2
theorem zBb {g:ByteArray} {fs:List NodeD} {d:NodeD} (h:d∈xB g fs):d∈fs:=by
 unfold xB at h;exact(List.mem_filter.1 h).1
set_option maxRecDepth 100000 in
theorem zGG (A:Option Addr) (n c:Nat) (b0 b1 b2 b3:Value) (fs:List NodeD) (b:TableD) (w:World) (h:Nodes w w.heap.size A n fs) (hb:TableR w w.heap.size b0 b1 b2 b3 b) (hs:vF fs) (ht:uA fs=true) (hpos:0<b.cols.length) (hn5:b.cols.length≤5) :
 Calls Tryz.prog 49 #[.agg #[.slice A n c],.agg #[b0,b1,b2,b3]] w (zAA (yI b.cols (xB b.glob fs)) w):=by
 obtain⟨i0,hi,hz0,hz1,hz2⟩:=info_parts xZ;have HK3:=zh (fun W (hW:Below w.heap.size w W)=>zCb A n c b0 b1 b2 b3 fs b W (h.later hW) (hb.later hW) hs);have HKU:=zh (fun W (hW:Below w.heap.size w W) key val hk hv=>zEM b0 b1 b2 b3 b key val W (hb.later hW) hpos hn5 hk hv);have HNV:Hid (∀d∈xB b.glob fs,d.subs.length=2∧(∀s∈d.subs,s.size≤1048576)∧d.val.size≤64):=fun d hd=>⟨zBV d hd,(hs.2 d (zBb hd)).2.1.2,zCu ht d (zBb hd)⟩;have HR:Hid (yI b.cols (xB b.glob fs)=(if 24<(xB b.glob fs).length then ((4:Int),[]) else match wE (zDY b.cols) (xB b.glob fs) with | none=>((14:Int),[]) | some rs=>((0:Int),rs))):=rfl;have HF:Hid (∀d,zDY b.cols d=uH b.cols (d.subs.getD 1 ByteArray.empty) d.val):=fun _=>rfl;obtain⟨rfl,rfl,⟨A2,n2,p2,rfl,s2,k2⟩,⟨A3,n3,p3,rfl,s3,k3⟩⟩:=hb;clear s2 s3 h hs ht hpos hn5;generalize yI b.cols (xB b.glob fs)=R at *;generalize xB b.glob fs=ns at *;generalize uH b.cols=up at *;generalize zDY b.cols=kv at *;generalize b.name=nm at *;generalize b.glob=gl at *;have HB0:=zh ((Below.new w (.cells #[.slice A n c] 26)).later (Below.new _ (.cells #[.string nm,.string gl,.slice A2 n2 p2,.slice A3 n3 p3] 29)));have HX1:=zh (uB w (.cells #[.slice A n c] 26) (.cells #[.string nm,.string gl,.slice A2 n2 p2,.slice A3 n3 p3] 29));go_enter Tryz.func49,Tryz.ntmps49;go_wp2_with fail;refine(HK3.out _ HB0.out).mono ?_;rintro e w3 ⟨v,ncs,rfl,ho,hc,hb3⟩;obtain⟨A4,cap4,rfl,_,hN4⟩:=wK ho rfl hc hb3;have HN4:=zh hN4;have HB3:=zh (HB0.out.later hb3);have HY1:=zh (Blk.later HX1.out hb3 (by simp));have hw3:=HY1.out.lt;clear ho hc hb3 hN4;generalize hm:ns.length=m at *;have HM:=zh hm;clear hm;by_cases hbig:24<m
 · have HE:Hid (R=(4,[])):=by unfold Hid;rw[HR.out,if_pos hbig]
   go_wp2_with fail
   go_ret2
   rw[HE.out];exact⟨_,rfl,vM w3 w.heap.size HB3.out.size,HB3.out.later (Below.new _ _)⟩
 have HR2:Hid (R=match wE kv ns with | none=>((14:Int),[]) | some rs=>((0:Int),rs)):=by unfold Hid;rw[HR.out,if_neg hbig]
 clear HR;go_wp2_with fail;go_loopw [7,8] (fun v i wr=>∃(k:Nat) (acc:List (List ByteArray)),k≤m∧i=.int .i64 k∧acc.length=k∧RowsI wr w3.heap.size v acc∧Below w3.heap.size w3 wr∧Hid (wE kv ns=(wE kv (ns.drop k)).map (acc++·))) (fun _ i _=>m-(intOf i).toNat);case atStart=>exact⟨0,[],Nat.zero_le _,rfl,rfl,vM w3 _ (Nat.le_refl _),Below.new _ _,by simp[Hid]⟩
 case round =>
  obtain⟨k,acc,hk,rfl,hacc,hrows,hb,hS⟩:=hrel;have HB:=zh hb;obtain⟨vs,hrows⟩:=hrows;have HRW:=zh hrows;have HBw:=zh (HB3.out.later hb);clear hb hrows;by_cases hlt:k<m
  · have hl:k<ns.length:=by rw[HM.out];exact hlt
    obtain⟨bb,o,rfl,hbB,hcn⟩:=(HN4.out.later HB.out).2 (by omega);obtain⟨c0,c1,c2,k0,k1,k2',hr⟩:=hcn k hlt;clear hcn;obtain⟨hd2,hds,hdv⟩:=HNV.out _ (wB ns k hl);have HN:=zh (zCW kv ns k hl);have HSo:=zh (fun x=>zCV kv ns k hl (x:=x));have HFd:=zh (HF.out (ns.getD k default));clear hl;generalize ns.getD k default=d at *;obtain⟨rfl,⟨A1,n1,cap1,rfl,hs1,hcap1⟩,rfl⟩:=hr;obtain rfl:n1=2:=by rw[←hs1.1];exact hd2
    obtain⟨sb,so,rfl,hsb,hsc⟩:=hs1.2 (by omega);have hck:=hsc 1 (by omega);have HKK:=zh (fun W hW=>HKU.out W hW (d.subs.getD 1 ByteArray.empty) d.val (hds _ (xE _ _ (by omega))) hdv);clear hsc hs1 hds hdv hd2 k0;have y0:=(HY1.out.later HB.out hw3).cell 0;have y1:=(HY1.out.later HB.out hw3).cell 1;have y2:=(HY1.out.later HB.out hw3).cell 2;have y3:=(HY1.out.later HB.out hw3).cell 3;simp at y0 y1 y2 y3;have i1:(k:Int)<(m:Int):=by omega
    generalize d.subs.getD 1 ByteArray.empty=key at *;generalize d.val=val at *;generalize up key val=o' at *;have HQ0:Hid (Blk (wr.alloc (.cells #[.slice none 0 0] 40)) wr.heap.size 40 #[.slice none 0 0]):=zD0 rfl;have HBn:=zh (HBw.out.later (Below.new wr (.cells #[.slice none 0 0] 40)));have HS:Hid (∀W',Below wr.heap.size wr W'→(W'.cell? ⟨w.heap.size+1,0,none⟩=some (.string nm)∧W'.cell? ⟨w.heap.size+1,1,none⟩=some (.string gl)∧W'.cell? ⟨w.heap.size+1,2,none⟩=some (.slice A2 n2 p2)∧W'.cell? ⟨w.heap.size+1,3,none⟩=some (.slice A3 n3 p3)∧W'.cell? ⟨bb,o+k*3+1,none⟩=some (.slice (some ⟨sb,so,none⟩) 2 cap1)∧W'.cell? ⟨bb,o+k*3+2,none⟩=some (.string val)∧W'.cell? ⟨sb,so+1,none⟩=some (.string key))):=fun W' hW=>⟨cell_later hW y0,cell_later hW y1,cell_later hW y2,cell_later hW y3,cell_later hW k1,cell_later hW k2',cell_later hW hck⟩;go_wp2_with fail
    go_region_held3 (fun w'=>w'.cell? ⟨w.heap.size+1,0,none⟩=some (.string nm)∧w'.cell? ⟨w.heap.size+1,1,none⟩=some (.string gl)∧w'.cell? ⟨w.heap.size+1,2,none⟩=some (.slice A2 n2 p2)∧w'.cell? ⟨w.heap.size+1,3,none⟩=some (.slice A3 n3 p3)∧w'.cell? ⟨bb,o+k*3+1,none⟩=some (.slice (some ⟨sb,so,none⟩) 2 cap1)∧w'.cell? ⟨bb,o+k*3+2,none⟩=some (.string val)∧w'.cell? ⟨sb,so+1,none⟩=some (.string key)) (first | exact HS.out _ (Below.refl _ _).drew | exact HS.out _ (Below.new _ _).drew | exact HS.out _ HBY.out | exact HS.out _ (HBY.out.later (Below.new _ _)) | exact HS.out _ (HBY.out.setCell (Nat.le_refl _) _))
     (first
       | (go_at_call 119;refine(HKK.out _ HBw.out.drew).mono ?_;rintro e w4 ⟨v',rfl,hsub,hb4'⟩;obtain⟨AC,cc,rfl,hcc,hmc,hac⟩:=Own.own_slice hsub;have HSUB:=zh hsub;have HBX:=zh (xC hb4');have HBY:=zh HBX.out;clear hsub hb4' hac)
       | (go_at_call 119;refine(HKK.out _ HBn.out.drew).mono ?_;rintro e w4 ⟨v',rfl,hsub,hb4'⟩;obtain⟨AC,cc,rfl,hcc,hmc,hac⟩:=Own.own_slice hsub;have HSUB:=zh hsub;have HBX:=zh (xC hb4');have HBY:=zh ((Below.new wr (.cells #[.slice none 0 0] 40)).later HBX.out);have HQ:=zh (Blk.later HQ0.out HBX.out (by simp));have q0:=(Blk.cell HQ.out 0);have qf:=Blk.frozen HQ.out 0;have qz:=Blk.lt HQ.out;simp at q0;clear hsub hb4' hac))
    · have HBZ:=zh (HBX.out.later (Below.new w4 (.cells #[(.slice AC (o'.getD []).length cc)] 40)));have HQ5:Hid (Blk (w4.alloc (.cells #[(.slice AC (o'.getD []).length cc)] 40)) w4.heap.size 40 #[(.slice AC (o'.getD []).length cc)]):=zD0 rfl;have HS5:Hid (Own.SubO (w4.alloc (.cells #[(.slice AC (o'.getD []).length cc)] 40)) wr.heap.size (.slice AC (o'.getD []).length cc) (o'.getD [])):=Own.own_later HSUB.out (Below.new _ _);have HAPB:wr.heap.size≤wr.heap.size:=Nat.le_refl _;obtain⟨W5,hW5⟩:∃W5,W5=w4.alloc (.cells #[(.slice AC (o'.getD []).length cc)] 40):=⟨_,rfl⟩;rw[←hW5]at HBZ HQ5 HS5 ⊢;clear hW5 HBX HBY HSUB HQ0 HBn;have HB5:=zh (HB.out.later HBZ.out);have HBv:=zh (HB3.out.later HB5.out);have HRW5:=zh (HRW.out.later HBZ.out);have q5:=HQ5.out.cell 0;have qz5:=HQ5.out.lt;simp at q5;have z35:=HB5.out.size;have z36:=HB.out.size
      cases o' with
      | none =>
        have HE:Hid (R=(14,[])):=by unfold Hid;rw[HR2.out,hS.out,HN.out HFd.out];rfl
        have hcu:zAQ (none:Option (List ByteArray))=14:=rfl;rw[hcu];clear q5 qz5;go_wp2_with fail
        go_ret2
        rw[HE.out];exact⟨_,rfl,vM _ _ HBv.out.size,HBv.out.later (Below.new _ _)⟩
      | some x =>
        have HE:Hid (wE kv ns=(wE kv (ns.drop (k+1))).map ((acc++[x])++·)):=by
         unfold Hid;rw[hS.out,HSo.out x HFd.out,Option.map_map]
         congr 1
         funext l
         simp
        have hcu:zAQ (some x)=0:=rfl;rw[hcu];have HO:=zh HRW5.out;have HAP:=zh (Own.OwnL.fresh HRW.out HS5.out HAPB);have hrow:Hid (∀oo,(W5.alloc oo).ownsRow w3.heap.size 40 1 u7 acc.length (Own.flat rowK acc vs)):=fun oo=>Own.own_later HO.out.row (Below.new _ _);have hx5:Own.SubO W5 w3.heap.size (.slice AC x.length cc) x:=Own.own_base HS5.out (by omega);have HX5:=zh hx5;clear hx5;go_wp2_with (at_builtin;refine wpList_append_own _ rfl (.tmp 46) (.tmp 48) 35 rfl w3.heap.size 40 i0 _ 1 24 Tryz.underlying35 hi hz0 hz1 hz2 rfl (by decide) _ acc.length _ rfl (hrow.out _) ⟨_,0,none⟩ 1 1 [.slice AC x.length cc] rfl rfl ?m1 ?m2 ?m3 ?m4 ?m5 ?_);all_goals try (first | exact wD _ #[.slice AC x.length cc] _ _ (by simp) | (simp[Value.oneCell'];done) | (unfold maxLen;omega) | omega | (simp;omega))
        intro v1 w6 hown1 hg1 _;have HN6:Hid (RowsI w6 w3.heap.size v1 (acc++[x])):=by have hX6:Own.SubO (W5.alloc (.cells #[.slice AC x.length cc] 40)) w3.heap.size (.slice AC x.length cc) x:=Own.own_later HX5.out (Below.new _ _);refine⟨vs++[.slice AC x.length cc],Own.OwnL.snoc (HO.out.later (Below.new W5 (.cells #[.slice AC x.length cc] 40))) hX6 HAP.out ?_ hg1 (by decide)⟩;show w6.ownsRow w3.heap.size 40 1 v1 (acc.length+1) (Own.flat rowK acc vs++[.slice AC x.length cc]);rw[hacc];exact hown1
        have HB6:=zh ((HB5.out.later (Below.new W5 (.cells #[.slice AC x.length cc] 40))).grown hg1 (by simp;omega) (fun g hg'=>((hrow.out (.cells #[] 0)).lt g hg').1));clear hown1 hg1;go_wp2_with fail;go_roundw;case rel=>exact⟨k+1,acc++[x],by omega,by go_num,by simp[hacc],HN6.out,HB6.out,HE.out⟩
        case measure=>simp[intOf];omega
    · have HBZ:=zh (HBY.out.setCell (p:=⟨wr.heap.size,0,none⟩) (Nat.le_refl _) (.slice AC (o'.getD []).length cc));have HQ5:Hid (Blk (w4.setCell ⟨wr.heap.size,0,none⟩ (.slice AC (o'.getD []).length cc)) wr.heap.size 40 #[(.slice AC (o'.getD []).length cc)]):=by unfold Hid;have h:=HQ.out.set_ 0 (.slice AC (o'.getD []).length cc);simpa using h
      have HS5:Hid (Own.SubO (w4.setCell ⟨wr.heap.size,0,none⟩ (.slice AC (o'.getD []).length cc)) (wr.alloc (.cells #[.slice none 0 0] 40)).heap.size (.slice AC (o'.getD []).length cc) (o'.getD [])):=Own.sub_far HSUB.out (by simp);have HAPB:wr.heap.size≤(wr.alloc (.cells #[.slice none 0 0] 40)).heap.size:=by simp
      obtain⟨W5,hW5⟩:∃W5,W5=w4.setCell ⟨wr.heap.size,0,none⟩ (.slice AC (o'.getD []).length cc):=⟨_,rfl⟩;rw[←hW5]at HBZ HQ5 HS5 ⊢;clear hW5 HBX HBY HSUB HQ0 HBn q0 qf qz HQ;have HB5:=zh (HB.out.later HBZ.out);have HBv:=zh (HB3.out.later HB5.out);have HRW5:=zh (HRW.out.later HBZ.out);have q5:=HQ5.out.cell 0;have qz5:=HQ5.out.lt;simp at q5;have z35:=HB5.out.size;have z36:=HB.out.size
      cases o' with
      | none =>
        have HE:Hid (R=(14,[])):=by unfold Hid;rw[HR2.out,hS.out,HN.out HFd.out];rfl
        have hcu:zAQ (none:Option (List ByteArray))=14:=rfl;rw[hcu];clear q5 qz5;go_wp2_with fail
        go_ret2
        rw[HE.out];exact⟨_,rfl,vM _ _ HBv.out.size,HBv.out.later (Below.new _ _)⟩
      | some x =>
        have HE:Hid (wE kv ns=(wE kv (ns.drop (k+1))).map ((acc++[x])++·)):=by
         unfold Hid;rw[hS.out,HSo.out x HFd.out,Option.map_map]
         congr 1
         funext l
         simp
        have hcu:zAQ (some x)=0:=rfl;rw[hcu];have HO:=zh HRW5.out;have HAP:=zh (Own.OwnL.fresh HRW.out HS5.out HAPB);have hrow:Hid (∀oo,(W5.alloc oo).ownsRow w3.heap.size 40 1 u7 acc.length (Own.flat rowK acc vs)):=fun oo=>Own.own_later HO.out.row (Below.new _ _);have hx5:Own.SubO W5 w3.heap.size (.slice AC x.length cc) x:=Own.own_base HS5.out (by simp;omega);have HX5:=zh hx5;clear hx5;go_wp2_with (at_builtin;refine wpList_append_own _ rfl (.tmp 46) (.tmp 48) 35 rfl w3.heap.size 40 i0 _ 1 24 Tryz.underlying35 hi hz0 hz1 hz2 rfl (by decide) _ acc.length _ rfl (hrow.out _) ⟨_,0,none⟩ 1 1 [.slice AC x.length cc] rfl rfl ?n1 ?n2 ?n3 ?n4 ?n5 ?_);all_goals try (first | exact wD _ #[.slice AC x.length cc] _ _ (by simp) | (simp[Value.oneCell'];done) | (unfold maxLen;omega) | omega | (simp;omega))
        intro v1 w6 hown1 hg1 _;have HN6:Hid (RowsI w6 w3.heap.size v1 (acc++[x])):=by have hX6:Own.SubO (W5.alloc (.cells #[.slice AC x.length cc] 40)) w3.heap.size (.slice AC x.length cc) x:=Own.own_later HX5.out (Below.new _ _);refine⟨vs++[.slice AC x.length cc],Own.OwnL.snoc (HO.out.later (Below.new W5 (.cells #[.slice AC x.length cc] 40))) hX6 HAP.out ?_ hg1 (by decide)⟩;show w6.ownsRow w3.heap.size 40 1 v1 (acc.length+1) (Own.flat rowK acc vs++[.slice AC x.length cc]);rw[hacc];exact hown1
        have HB6:=zh ((HB5.out.later (Below.new W5 (.cells #[.slice AC x.length cc] 40))).grown hg1 (by simp;omega) (fun g hg'=>((hrow.out (.cells #[] 0)).lt g hg').1));clear hown1 hg1;go_wp2_with fail;go_roundw;case rel=>exact⟨k+1,acc++[x],by omega,by go_num,by simp[hacc],HN6.out,HB6.out,HE.out⟩
        case measure=>simp[intOf];omega
  · have HE:Hid (R=(0,acc)):=by unfold Hid;rw[HR2.out,hS.out,List.drop_of_length_le (by rw[HM.out];omega)];simp[wE]
    go_wp2_with fail
    go_ret2
    rw[HE.out];exact⟨_,rfl,⟨vs,HRW.out.base HB3.out.size⟩,HBw.out⟩
end Go.Proofs.YtfpcjhajjejpdaaGreatDoor
namespace Go.Proofs.YtfpcjhajjejpdaaGreatDoor
open Go.RowKit Go.Proofs.YtfpcjhajjejpdaaGreatDoor.Own
theorem Blk.at {w:World} {g:Nat} {t:TypeId} {cs:Array Value} (h:Blk w g t cs) (i:Nat) {v:Value} (hv:cs[i]?=some v):w.cell? ⟨g,i,none⟩=some v:=(h.cell i).trans hv
end Go.Proofs.YtfpcjhajjejpdaaGreatDoor
namespace Go.Proofs.YtfpcjhajjejpdaaGreatDoor
open Go.RowKit
def vE (cols:List ByteArray) (wh:List CondD) (row:List ByteArray):Bool:=wh.all fun c=>uP (row.getD (xA cols c.col).toNat ByteArray.empty) c
theorem zJZ (p:CondD→Bool) (l:List CondD) (k:Nat) (h:k<l.length):(l.drop k).all p=(p (l.getD k default)&&(l.drop (k+1)).all p):=by
 rw[List.drop_eq_getElem_cons h,List.all_cons,List.getD_eq_getElem?_getD,List.getElem?_eq_getElem h];rfl
set_option maxRecDepth 100000 in
theorem zFH (b0 b1 b2 b3 c0 c1 c2 c3 c4 c5 r0:Value) (b:TableD) (d:QueryD) (row:List ByteArray) (w:World) (hb:TableR w w.heap.size b0 b1 b2 b3 b) (h:QueryR w w.heap.size c0 c1 c2 c3 c4 c5 d) (hr:RowR w w.heap.size r0 row) (hbs:b.small) (hs:d.small) (hrs:yH row)
 (hfit:∀c∈d.wher,0≤xA b.cols c.col) (hlen:row.length=b.cols.length) :
 Calls Tryz.prog 120 #[.agg #[b0,b1,b2,b3],.agg #[c0,c1,c2,c3,c4,c5],.agg #[r0]] w fun e w'=>e=.returned (.bool (vE b.cols d.wher row))∧Below w.heap.size w w':=by
 obtain⟨rfl,rfl,⟨A2,n2,p2,rfl,s2,k2⟩,⟨A3,n3,p3,rfl,s3,k3⟩⟩:=hb;obtain⟨rfl,⟨B1,m1,q1,rfl,t1,l1⟩,⟨B2,m2,q2,rfl,t2,l2⟩,rfl,rfl,rfl⟩:=h;obtain⟨R0,rn,rc,rfl,hS,hrc⟩:=hr;have hn2:n2≤1048576:=by rw[←s2.1];exact hbs.2.2.1.1
 have hm2:m2≤1048576:=by rw[←t2.1];exact hs.2.2.1.1
 have HKP:=zh (fun x W (hW:Below w.heap.size w W)=>(uF A2 n2 p2 b.cols x W (s2.later hW) hn2).mono (R':=fun e w'=>e=.returned (.int .i64 (xA b.cols x))∧Below W.heap.size W w') (fun e w' ⟨h1,h2⟩=>⟨h1,h2 ▸ Below.refl _ _⟩));have HKC:=zh (fun k (hk:k<d.wher.length) j (hj:j<row.length) c0 c1 c2 W (hW:CondR W W.heap.size c0 c1 c2 (d.wher.getD k default))=>zCz (row.getD j ByteArray.empty) c0 c1 c2 (d.wher.getD k default) W hW (hs.2.2.1.2 _ (wB _ k hk)) (hrs.2 _ (xE row j hj)));have HFit:Hid (∀k,k<d.wher.length→∃j:Nat,xA b.cols (d.wher.getD k default).col=j∧j<row.length):=fun k hk=>by have h1:=hfit _ (wB _ k hk);have h2:=(xD b.cols (d.wher.getD k default).col).2;exact⟨(xA b.cols (d.wher.getD k default).col).toNat,by omega,by rw[hlen];omega⟩
 have HR:Hid (vE b.cols d.wher row=d.wher.all fun c=>uP (row.getD (xA b.cols c.col).toNat ByteArray.empty) c):=rfl;have HT:=zh t2;have HSS:=zh hS;clear s2 s3 t1 t2 hS hbs hs hrs hfit hlen;generalize vE b.cols d.wher row=R at *;have HB0:=zh (wJ w (.cells #[.string b.name,.string b.glob,.slice A2 n2 p2,.slice A3 n3 p3] 29) (.cells #[.string d.table,.slice B1 m1 q1,.slice B2 m2 q2,.string d.order,.bool d.desc,.int .i64 d.limit] 32) (.cells #[.slice R0 rn rc] 40));obtain⟨WB,hWB⟩:∃WB,WB=((w.alloc (.cells #[.string b.name,.string b.glob,.slice A2 n2 p2,.slice A3 n3 p3] 29)).alloc (.cells #[.string d.table,.slice B1 m1 q1,.slice B2 m2 q2,.string d.order,.bool d.desc,.int .i64 d.limit] 32)).alloc (.cells #[.slice R0 rn rc] 40):=⟨_,rfl⟩;have HX0:Hid (Blk WB w.heap.size 29 #[.string b.name,.string b.glob,.slice A2 n2 p2,.slice A3 n3 p3]):=by subst hWB;exact zK0 _ _ _ _
 have HX1:Hid (Blk WB (w.heap.size+1) 32 #[.string d.table,.slice B1 m1 q1,.slice B2 m2 q2,.string d.order,.bool d.desc,.int .i64 d.limit]):=by subst hWB;exact uI _ _ _ _
 have HX2:Hid (Blk WB (w.heap.size+1+1) 40 #[.slice R0 rn rc]):=by subst hWB;exact zI0 _ _ _ _
 have HBB:Hid (Below w.heap.size w WB):=by subst hWB;exact HB0.out
 have HS1:Hid (∀W',Below WB.heap.size WB W'→(W'.cell? ⟨w.heap.size,2,none⟩=some (.slice A2 n2 p2)∧W'.cell? ⟨w.heap.size+1,2,none⟩=some (.slice B2 m2 q2)∧W'.cell? ⟨w.heap.size+1+1,0,none⟩=some (.slice R0 rn rc))):=fun W' hW=>⟨(HX0.out.later hW HX0.out.lt).at 2 rfl,(HX1.out.later hW HX1.out.lt).at 2 rfl,(HX2.out.later hW HX2.out.lt).at 0 rfl⟩;go_enter Tryz.func120,Tryz.ntmps120;go_wp2_with fail;rw[←hWB];clear hWB HB0;go_loopw [7] (fun i wr=>∃k:Nat,k≤m2∧i=.int .i64 k∧Below WB.heap.size WB wr∧Hid (R=(d.wher.drop k).all fun c=>uP (row.getD (xA b.cols c.col).toNat ByteArray.empty) c)) (fun i _=>m2-(intOf i).toNat);case atStart=>exact⟨0,Nat.zero_le _,rfl,Below.refl _ _,HR.out⟩
 case round =>
  obtain⟨k,hk,rfl,hb,hS⟩:=hrel;have HB:=zh hb;have HBw:=zh (HBB.out.later hb);clear hb;obtain⟨x0,x1,x2⟩:=HS1.out _ HB.out;by_cases hlt:k<m2
  · have hl:k<d.wher.length:=by rw[HT.out.1];exact hlt
    obtain⟨bb,o,rfl,hbB,hcn⟩:=(HT.out.later HBw.out).2 (by omega);obtain⟨c0,c1,c2,k0,k1,k2',hr⟩:=hcn k hlt;clear hcn;obtain⟨j,hj1,hj2⟩:=HFit.out k hl;have HSt:=zh (zJZ (fun c=>uP (row.getD (xA b.cols c.col).toNat ByteArray.empty) c) d.wher k hl);have HKk:=zh (fun W hW=>HKC.out k hl j hj2 c0 c1 c2 W hW);have HCR:=zh hr;have hjn:j<rn:=by rw[←HSS.out.1];exact hj2
    obtain⟨rb,ro,rfl,hrb,hrcell⟩:=(HSS.out.later HBw.out).2 (by omega);have hck:=hrcell j hjn;have HPj:Hid (∀W,Below w.heap.size w W→Calls Tryz.prog 90 #[.slice A2 n2 p2,.string (d.wher.getD k default).col] W fun e w'=>e=.returned (.int .i64 (j:Nat))∧Below W.heap.size W w'):=fun W hW=>by have h:=HKP.out (d.wher.getD k default).col W hW;rw[hj1]at h;exact h
    have HTT:Hid (uP (row.getD (xA b.cols (d.wher.getD k default).col).toNat ByteArray.empty) (d.wher.getD k default)=uP (row.getD j ByteArray.empty) (d.wher.getD k default)):=by unfold Hid;rw[hj1];rfl
    clear hrcell hl hj2 hj1;generalize d.wher.getD k default=cd at *;generalize row.getD j ByteArray.empty=cell at *;obtain⟨rfl,rfl,rfl⟩:=hr;generalize uP cell cd=y at *;have hkz:(k:Int)<(m2:Int):=by omega
    have hjz:(j:Int)<(rn:Int):=by omega
    have HSW:Hid (∀W',Below wr.heap.size wr W'→((W'.cell? ⟨w.heap.size,2,none⟩=some (.slice A2 n2 p2)∧W'.cell? ⟨w.heap.size+1,2,none⟩=some (.slice (some ⟨bb,o,none⟩) m2 q2)∧W'.cell? ⟨w.heap.size+1+1,0,none⟩=some (.slice (some ⟨rb,ro,none⟩) rn rc))∧W'.cell? ⟨bb,o+k*3,none⟩=some (.string cd.col)∧W'.cell? ⟨bb,o+k*3+1,none⟩=some (.int .i64 cd.op)∧W'.cell? ⟨bb,o+k*3+2,none⟩=some (.string cd.val)∧W'.cell? ⟨rb,ro+j,none⟩=some (.string cell))):=fun W' hW=>⟨HS1.out _ (HB.out.later hW),cell_later hW k0,cell_later hW k1,cell_later hW k2',cell_later hW hck⟩;go_wp2_with fail
    go_region_held3 (fun W'=>(W'.cell? ⟨w.heap.size,2,none⟩=some (.slice A2 n2 p2)∧W'.cell? ⟨w.heap.size+1,2,none⟩=some (.slice (some ⟨bb,o,none⟩) m2 q2)∧W'.cell? ⟨w.heap.size+1+1,0,none⟩=some (.slice (some ⟨rb,ro,none⟩) rn rc))∧W'.cell? ⟨bb,o+k*3,none⟩=some (.string cd.col)∧W'.cell? ⟨bb,o+k*3+1,none⟩=some (.int .i64 cd.op)∧W'.cell? ⟨bb,o+k*3+2,none⟩=some (.string cd.val)∧W'.cell? ⟨rb,ro+j,none⟩=some (.string cell))
     (first | exact HSW.out _ hb2 | exact HSW.out _ hb1 | exact HSW.out _ (Below.refl _ _).drew)
     (first
       | (go_at_call 90;refine(HPj.out _ (by exact HBw.out.drew)).mono ?_;rintro e w1 ⟨rfl,hb1'⟩;have hb1:=xC hb1';clear hb1')
       | (go_at_call 175;refine(HKk.out _ (by exact HCR.out.later hb1)).mono ?_;rintro e w2 ⟨rfl,hb2'⟩;have hb2:=hb1.later hb2';clear hb2'))
    have HB2:=zh (HB.out.later hb2);have HBw2:=zh (HBw.out.later hb2);clear hb1 hb2 x0 x1 x2;cases y
    · have HE:Hid (R=false):=by unfold Hid;rw[hS.out,HSt.out,HTT.out];rfl
      go_wp2_with fail;go_ret;exact⟨zA0 HE.out.symm,HBw2.out⟩
    · have HE:Hid (R=(d.wher.drop (k+1)).all fun c=>uP (row.getD (xA b.cols c.col).toNat ByteArray.empty) c):=by unfold Hid;rw[hS.out,HSt.out,HTT.out];rfl
      go_wp2_with fail;go_roundw;case rel=>exact⟨k+1,by omega,by go_num,HB2.out,HE.out⟩
      case measure=>simp[intOf];omega
  · have HE:Hid (R=true):=by unfold Hid;rw[hS.out,List.drop_of_length_le (by rw[HT.out.1];omega)];rfl
    go_wp2_with fail;go_ret;exact⟨zA0 HE.out.symm,HBw.out⟩
end Go.Proofs.YtfpcjhajjejpdaaGreatDoor
