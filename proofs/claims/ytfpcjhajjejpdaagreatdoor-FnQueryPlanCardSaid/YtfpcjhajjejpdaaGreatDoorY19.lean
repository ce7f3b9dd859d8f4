import Derived.Test.YtfpcjhajjejpdaaGreatDoorY14
import Derived.Test.YtfpcjhajjejpdaaGreatDoorY11
import Derived.Test.YtfpcjhajjejpdaaGreatDoorY18
import Derived.Test.YtfpcjhajjejpdaaGreatDoorY15
import Derived.Test.YtfpcjhajjejpdaaGreatDoorY13
import Derived.Test.YtfpcjhajjejpdaaGreatDoorY00
import Derived.Deep.RegionHeld3
set_option maxHeartbeats 4000000
open Go.Lib renaming hid → zh
namespace Go.Proofs.YtfpcjhajjejpdaaGreatDoor
open Go.RowKit
def zAk (fs:List NodeD) (b:TableD) (q:QueryD) (p:PlanD):Int × Int :=
 if (uA fs&&vI b q p)=true then (if p.kind=1 then (if 0≤atI (vA b.glob fs) p.val then 1 else 0) else if p.kind=2 then ((yL b.glob p.col p.val fs).length:Int) else ((vA b.glob fs).length:Int),0) else (0,1)
theorem zAZ {g:ByteArray} {fs:List NodeD}:∀d∈vA g fs,d.subs.length=2:=by
 intro d hd;unfold vA at hd;rw[List.mem_filter]at hd;have h1:=hd.2;unfold uU at h1;simp only[Bool.and_eq_true,decide_eq_true_eq]at h1;exact h1.2.1
theorem zCS {g:ByteArray} {fs:List NodeD} (h:vC fs):(vA g fs).length≤1048576:=Nat.le_trans (List.length_filter_le _ _) h.1
theorem zFb {g c v:ByteArray} {fs:List NodeD} (h:vC fs):(yL g c v fs).length≤1048576:=by
 unfold yL;rw[List.length_map];exact Nat.le_trans (List.length_filter_le _ _) h.1
end Go.Proofs.YtfpcjhajjejpdaaGreatDoor
namespace Go.Proofs.YtfpcjhajjejpdaaGreatDoor
open Go.RowKit
def rowK:Own.Kind (List ByteArray):=⟨1,fun _ v=>[v],fun d=>d,fun _ _=>rfl,by decide⟩
def RowsI (w:World) (base:Nat) (v:Value) (rs:List (List ByteArray)):Prop:=∃vs,Own.OwnL rowK w base 40 v rs vs
theorem RowsI.later {w w':World} {base:Nat} {v:Value} {rs:List (List ByteArray)} (h:RowsI w base v rs) (hb:Below w.heap.size w w'):RowsI w' base v rs:=by
 obtain⟨vs,h1⟩:=h;exact⟨vs,h1.later hb⟩
theorem RowsI.base {w:World} {base base':Nat} {v:Value} {rs:List (List ByteArray)} (h:RowsI w base' v rs) (hb:base≤base'):RowsI w base v rs:=by
 obtain⟨vs,h1⟩:=h;exact⟨vs,h1.base hb⟩
def uE (f:NodeD→Option (List ByteArray)):List NodeD→Option (List (List ByteArray))
 | []=>some []
 | d::r=>match f d with
   | none=>none
   | some x=>(uE f r).map (x::·)
theorem zDN (f:NodeD→Option (List ByteArray)) (l:List NodeD) (k:Nat) (h:k<l.length) (hf:f (l.getD k default)=none):uE f (l.drop k)=none:=by
 rw[List.drop_eq_getElem_cons h];rw[List.getD_eq_getElem?_getD,List.getElem?_eq_getElem h]at hf;simp only[Option.getD_some]at hf;simp[uE,hf]
theorem zDM (f:NodeD→Option (List ByteArray)) (l:List NodeD) (k:Nat) (h:k<l.length) {x:List ByteArray} (hf:f (l.getD k default)=some x):uE f (l.drop k)=(uE f (l.drop (k+1))).map (x::·):=by
 rw[List.drop_eq_getElem_cons h];rw[List.getD_eq_getElem?_getD,List.getElem?_eq_getElem h]at hf;simp only[Option.getD_some]at hf;simp[uE,hf]
def zCF (cols:List ByteArray) (d:NodeD):Option (List ByteArray):=zJ0 cols (d.subs.getD 1 ByteArray.empty) d.val
def zF0 (cols:List ByteArray) (ns:List NodeD):Int × List (List ByteArray) :=
 if 24<ns.length then (4,[]) else match uE (zCF cols) ns with
  | none=>(14,[])
  | some rs=>(0,rs)
def yS (r:Int × List (List ByteArray)) (w:World) (e:Ending) (w':World):Prop:=∃v,e=.returned (.tuple #[v,.int .i64 r.1])∧RowsI w' w.heap.size v r.2∧Below w.heap.size w w'
theorem yU:(Tryz.prog.info? 40).map (fun i=>(i.zero,i.size,i.bytes))=some (some (.agg #[.slice none 0 0]),1,24):=by kernel_rfl
theorem uJ (w:World) (base:Nat) (h:base≤w.heap.size):RowsI (w.alloc (.cells #[] 40)) base (.slice (some ⟨w.heap.size,0,none⟩) 0 0) [] :=
 ⟨[],rfl,(by simpa using World.ownsRow_lit (base:=base) (e:=40) (size:=1) w #[] 0 h (by omega) rfl:(w.alloc (.cells #[] 40)).ownsRow base 40 1 (.slice (some ⟨w.heap.size,0,none⟩) 0 0) 0 []),fun j hj=>by simp at hj,List.Pairwise.nil⟩
theorem zCk {fs:List NodeD} (h:uA fs=true):∀d∈fs,d.val.size≤64:=by
 intro d hd;obtain⟨i,hi,rfl⟩:=List.getElem_of_mem hd;unfold uA at h;rw[Bool.and_eq_true]at h;have h2:=(zS0 (yM fs) fs.length 0).1 h.2 i (by omega) (by omega);unfold yM zAx at h2;simp only[Bool.and_eq_true,decide_eq_true_eq]at h2;rw[List.getD_eq_getElem?_getD,List.getElem?_eq_getElem hi]at h2;exact h2.1.2
theorem zBa {g:ByteArray} {fs:List NodeD} {d:NodeD} (h:d∈vA g fs):d∈fs:=by
 unfold vA at h;exact(List.mem_filter.1 h).1
set_option maxRecDepth 100000 in
theorem zDX (A:Option Addr) (n c:Nat) (b0 b1 b2 b3:Value) (fs:List NodeD) (b:TableD) (w:World) (h:Nodes w w.heap.size A n fs) (hb:TableR w w.heap.size b0 b1 b2 b3 b) (hs:vC fs) (ht:uA fs=true) (hpos:0<b.cols.length) (hn5:b.cols.length≤5) :
 Calls Tryz.prog 49 #[.agg #[.slice A n c],.agg #[b0,b1,b2,b3]] w (yS (zF0 b.cols (vA b.glob fs)) w):=by
 obtain⟨i0,hi,hz0,hz1,hz2⟩:=info_parts yU;have HK3:=zh (fun W (hW:Below w.heap.size w W)=>zBs A n c b0 b1 b2 b3 fs b W (h.later hW) (hb.later hW) hs);have HKU:=zh (fun W (hW:Below w.heap.size w W) key val hk hv=>zCx b0 b1 b2 b3 b key val W (hb.later hW) hpos hn5 hk hv);have HNV:Hid (∀d∈vA b.glob fs,d.subs.length=2∧(∀s∈d.subs,s.size≤1048576)∧d.val.size≤64):=fun d hd=>⟨zAZ d hd,(hs.2 d (zBa hd)).2.1.2,zCk ht d (zBa hd)⟩;have HR:Hid (zF0 b.cols (vA b.glob fs)=(if 24<(vA b.glob fs).length then ((4:Int),[]) else match uE (zCF b.cols) (vA b.glob fs) with | none=>((14:Int),[]) | some rs=>((0:Int),rs))):=rfl;have HF:Hid (∀d,zCF b.cols d=zJ0 b.cols (d.subs.getD 1 ByteArray.empty) d.val):=fun _=>rfl;obtain⟨rfl,rfl,⟨A2,n2,p2,rfl,s2,k2⟩,⟨A3,n3,p3,rfl,s3,k3⟩⟩:=hb;clear s2 s3 h hs ht hpos hn5;generalize zF0 b.cols (vA b.glob fs)=R at *;generalize vA b.glob fs=ns at *;generalize zJ0 b.cols=up at *;generalize zCF b.cols=kv at *;generalize b.name=nm at *;generalize b.glob=gl at *;have HB0:=zh ((Below.new w (.cells #[.slice A n c] 26)).later (Below.new _ (.cells #[.string nm,.string gl,.slice A2 n2 p2,.slice A3 n3 p3] 29)));have HX1:=zh (vB w (.cells #[.slice A n c] 26) (.cells #[.string nm,.string gl,.slice A2 n2 p2,.slice A3 n3 p3] 29));go_enter Tryz.func49,Tryz.ntmps49;go_wp2_with fail;refine(HK3.out _ HB0.out).mono ?_;rintro e w3 ⟨v,ncs,rfl,ho,hc,hb3⟩;obtain⟨A4,cap4,rfl,_,hN4⟩:=zM0 ho rfl hc hb3;have HN4:=zh hN4;have HB3:=zh (HB0.out.later hb3);have HY1:=zh (Blk.later HX1.out hb3 (by simp));have hw3:=HY1.out.lt;clear ho hc hb3 hN4;generalize hm:ns.length=m at *;have HM:=zh hm;clear hm;by_cases hbig:24<m
 · have HE:Hid (R=(4,[])):=by unfold Hid;rw[HR.out,if_pos hbig]
   go_wp2_with fail
   go_ret2
   rw[HE.out];exact⟨_,rfl,uJ w3 w.heap.size HB3.out.size,HB3.out.later (Below.new _ _)⟩
 have HR2:Hid (R=match uE kv ns with | none=>((14:Int),[]) | some rs=>((0:Int),rs)):=by unfold Hid;rw[HR.out,if_neg hbig]
 clear HR;go_wp2_with fail;go_loopw [7,8] (fun v i wr=>∃(k:Nat) (acc:List (List ByteArray)),k≤m∧i=.int .i64 k∧acc.length=k∧RowsI wr w3.heap.size v acc∧Below w3.heap.size w3 wr∧Hid (uE kv ns=(uE kv (ns.drop k)).map (acc++·))) (fun _ i _=>m-(intOf i).toNat);case atStart=>exact⟨0,[],Nat.zero_le _,rfl,rfl,uJ w3 _ (Nat.le_refl _),Below.new _ _,by simp[Hid]⟩
 case round =>
  obtain⟨k,acc,hk,rfl,hacc,hrows,hb,hS⟩:=hrel;have HB:=zh hb;obtain⟨vs,hrows⟩:=hrows;have HRW:=zh hrows;have HBw:=zh (HB3.out.later hb);clear hb hrows;by_cases hlt:k<m
  · have hl:k<ns.length:=by rw[HM.out];exact hlt
    obtain⟨bb,o,rfl,hbB,hcn⟩:=(HN4.out.later HB.out).2 (by omega);obtain⟨c0,c1,c2,k0,k1,k2',hr⟩:=hcn k hlt;clear hcn;obtain⟨hd2,hds,hdv⟩:=HNV.out _ (uB ns k hl);have HN:=zh (zDN kv ns k hl);have HSo:=zh (fun x=>zDM kv ns k hl (x:=x));have HFd:=zh (HF.out (ns.getD k default));clear hl;generalize ns.getD k default=d at *;obtain⟨rfl,⟨A1,n1,cap1,rfl,hs1,hcap1⟩,rfl⟩:=hr;obtain rfl:n1=2:=by rw[←hs1.1];exact hd2
    obtain⟨sb,so,rfl,hsb,hsc⟩:=hs1.2 (by omega);have hck:=hsc 1 (by omega);have HKK:=zh (fun W hW=>HKU.out W hW (d.subs.getD 1 ByteArray.empty) d.val (hds _ (uD _ _ (by omega))) hdv);clear hsc hs1 hds hdv hd2 k0;have y0:=(HY1.out.later HB.out hw3).cell 0;have y1:=(HY1.out.later HB.out hw3).cell 1;have y2:=(HY1.out.later HB.out hw3).cell 2;have y3:=(HY1.out.later HB.out hw3).cell 3;simp at y0 y1 y2 y3;have i1:(k:Int)<(m:Int):=by omega
    generalize d.subs.getD 1 ByteArray.empty=key at *;generalize d.val=val at *;generalize up key val=o' at *;have HQ0:Hid (Blk (wr.alloc (.cells #[.slice none 0 0] 40)) wr.heap.size 40 #[.slice none 0 0]):=xC rfl;have HBn:=zh (HBw.out.later (Below.new wr (.cells #[.slice none 0 0] 40)));have HS:Hid (∀W',Below wr.heap.size wr W'→(W'.cell? ⟨w.heap.size+1,0,none⟩=some (.string nm)∧W'.cell? ⟨w.heap.size+1,1,none⟩=some (.string gl)∧W'.cell? ⟨w.heap.size+1,2,none⟩=some (.slice A2 n2 p2)∧W'.cell? ⟨w.heap.size+1,3,none⟩=some (.slice A3 n3 p3)∧W'.cell? ⟨bb,o+k*3+1,none⟩=some (.slice (some ⟨sb,so,none⟩) 2 cap1)∧W'.cell? ⟨bb,o+k*3+2,none⟩=some (.string val)∧W'.cell? ⟨sb,so+1,none⟩=some (.string key))):=fun W' hW=>⟨cell_later hW y0,cell_later hW y1,cell_later hW y2,cell_later hW y3,cell_later hW k1,cell_later hW k2',cell_later hW hck⟩;go_wp2_with fail
    go_region_held3 (fun w'=>w'.cell? ⟨w.heap.size+1,0,none⟩=some (.string nm)∧w'.cell? ⟨w.heap.size+1,1,none⟩=some (.string gl)∧w'.cell? ⟨w.heap.size+1,2,none⟩=some (.slice A2 n2 p2)∧w'.cell? ⟨w.heap.size+1,3,none⟩=some (.slice A3 n3 p3)∧w'.cell? ⟨bb,o+k*3+1,none⟩=some (.slice (some ⟨sb,so,none⟩) 2 cap1)∧w'.cell? ⟨bb,o+k*3+2,none⟩=some (.string val)∧w'.cell? ⟨sb,so+1,none⟩=some (.string key)) (first | exact HS.out _ (Below.refl _ _).drew | exact HS.out _ (Below.new _ _).drew | exact HS.out _ HBY.out | exact HS.out _ (HBY.out.later (Below.new _ _)) | exact HS.out _ (HBY.out.setCell (Nat.le_refl _) _))
     (first
       | (go_at_call 119;refine(HKK.out _ HBw.out.drew).mono ?_;rintro e w4 ⟨v',rfl,hsub,hb4'⟩;obtain⟨AC,cc,rfl,hcc,hmc,hac⟩:=Own.own_slice hsub;have HSUB:=zh hsub;have HBX:=zh (wD hb4');have HBY:=zh HBX.out;clear hsub hb4' hac)
       | (go_at_call 119;refine(HKK.out _ HBn.out.drew).mono ?_;rintro e w4 ⟨v',rfl,hsub,hb4'⟩;obtain⟨AC,cc,rfl,hcc,hmc,hac⟩:=Own.own_slice hsub;have HSUB:=zh hsub;have HBX:=zh (wD hb4');have HBY:=zh ((Below.new wr (.cells #[.slice none 0 0] 40)).later HBX.out);have HQ:=zh (Blk.later HQ0.out HBX.out (by simp));have q0:=(Blk.cell HQ.out 0);have qf:=Blk.frozen HQ.out 0;have qz:=Blk.lt HQ.out;simp at q0;clear hsub hb4' hac))
    · have HBZ:=zh (HBX.out.later (Below.new w4 (.cells #[(.slice AC (o'.getD []).length cc)] 40)));have HQ5:Hid (Blk (w4.alloc (.cells #[(.slice AC (o'.getD []).length cc)] 40)) w4.heap.size 40 #[(.slice AC (o'.getD []).length cc)]):=xC rfl;have HS5:Hid (Own.SubO (w4.alloc (.cells #[(.slice AC (o'.getD []).length cc)] 40)) wr.heap.size (.slice AC (o'.getD []).length cc) (o'.getD [])):=Own.own_later HSUB.out (Below.new _ _);have HAPB:wr.heap.size≤wr.heap.size:=Nat.le_refl _;obtain⟨W5,hW5⟩:∃W5,W5=w4.alloc (.cells #[(.slice AC (o'.getD []).length cc)] 40):=⟨_,rfl⟩;rw[←hW5]at HBZ HQ5 HS5 ⊢;clear hW5 HBX HBY HSUB HQ0 HBn;have HB5:=zh (HB.out.later HBZ.out);have HBv:=zh (HB3.out.later HB5.out);have HRW5:=zh (HRW.out.later HBZ.out);have q5:=HQ5.out.cell 0;have qz5:=HQ5.out.lt;simp at q5;have z35:=HB5.out.size;have z36:=HB.out.size
      cases o' with
      | none =>
        have HE:Hid (R=(14,[])):=by unfold Hid;rw[HR2.out,hS.out,HN.out HFd.out];rfl
        have hcu:zAF (none:Option (List ByteArray))=14:=rfl;rw[hcu];clear q5 qz5;go_wp2_with fail
        go_ret2
        rw[HE.out];exact⟨_,rfl,uJ _ _ HBv.out.size,HBv.out.later (Below.new _ _)⟩
      | some x =>
        have HE:Hid (uE kv ns=(uE kv (ns.drop (k+1))).map ((acc++[x])++·)):=by
         unfold Hid;rw[hS.out,HSo.out x HFd.out,Option.map_map]
         congr 1
         funext l
         simp
        have hcu:zAF (some x)=0:=rfl;rw[hcu];have HO:=zh HRW5.out;have HAP:=zh (Own.OwnL.fresh HRW.out HS5.out HAPB);have hrow:Hid (∀oo,(W5.alloc oo).ownsRow w3.heap.size 40 1 u7 acc.length (Own.flat rowK acc vs)):=fun oo=>Own.own_later HO.out.row (Below.new _ _);have hx5:Own.SubO W5 w3.heap.size (.slice AC x.length cc) x:=Own.own_base HS5.out (by omega);have HX5:=zh hx5;clear hx5;go_wp2_with (at_builtin;refine wpList_append_own _ rfl (.tmp 46) (.tmp 48) 35 rfl w3.heap.size 40 i0 _ 1 24 Tryz.underlying35 hi hz0 hz1 hz2 rfl (by decide) _ acc.length _ rfl (hrow.out _) ⟨_,0,none⟩ 1 1 [.slice AC x.length cc] rfl rfl ?m1 ?m2 ?m3 ?m4 ?m5 ?_);all_goals try (first | exact wC _ #[.slice AC x.length cc] _ _ (by simp) | (simp[Value.oneCell'];done) | (unfold maxLen;omega) | omega | (simp;omega))
        intro v1 w6 hown1 hg1 _;have HN6:Hid (RowsI w6 w3.heap.size v1 (acc++[x])):=by have hX6:Own.SubO (W5.alloc (.cells #[.slice AC x.length cc] 40)) w3.heap.size (.slice AC x.length cc) x:=Own.own_later HX5.out (Below.new _ _);refine⟨vs++[.slice AC x.length cc],Own.OwnL.snoc (HO.out.later (Below.new W5 (.cells #[.slice AC x.length cc] 40))) hX6 HAP.out ?_ hg1 (by decide)⟩;show w6.ownsRow w3.heap.size 40 1 v1 (acc.length+1) (Own.flat rowK acc vs++[.slice AC x.length cc]);rw[hacc];exact hown1
        have HB6:=zh ((HB5.out.later (Below.new W5 (.cells #[.slice AC x.length cc] 40))).grown hg1 (by simp;omega) (fun g hg'=>((hrow.out (.cells #[] 0)).lt g hg').1));clear hown1 hg1;go_wp2_with fail;go_roundw;case rel=>exact⟨k+1,acc++[x],by omega,by go_num,by simp[hacc],HN6.out,HB6.out,HE.out⟩
        case measure=>simp[intOf];omega
    · have HBZ:=zh (HBY.out.setCell (p:=⟨wr.heap.size,0,none⟩) (Nat.le_refl _) (.slice AC (o'.getD []).length cc));have HQ5:Hid (Blk (w4.setCell ⟨wr.heap.size,0,none⟩ (.slice AC (o'.getD []).length cc)) wr.heap.size 40 #[(.slice AC (o'.getD []).length cc)]):=by unfold Hid;have h:=HQ.out.set_ 0 (.slice AC (o'.getD []).length cc);simpa using h
      have HS5:Hid (Own.SubO (w4.setCell ⟨wr.heap.size,0,none⟩ (.slice AC (o'.getD []).length cc)) (wr.alloc (.cells #[.slice none 0 0] 40)).heap.size (.slice AC (o'.getD []).length cc) (o'.getD [])):=Own.sub_far HSUB.out (by simp);have HAPB:wr.heap.size≤(wr.alloc (.cells #[.slice none 0 0] 40)).heap.size:=by simp
      obtain⟨W5,hW5⟩:∃W5,W5=w4.setCell ⟨wr.heap.size,0,none⟩ (.slice AC (o'.getD []).length cc):=⟨_,rfl⟩;rw[←hW5]at HBZ HQ5 HS5 ⊢;clear hW5 HBX HBY HSUB HQ0 HBn q0 qf qz HQ;have HB5:=zh (HB.out.later HBZ.out);have HBv:=zh (HB3.out.later HB5.out);have HRW5:=zh (HRW.out.later HBZ.out);have q5:=HQ5.out.cell 0;have qz5:=HQ5.out.lt;simp at q5;have z35:=HB5.out.size;have z36:=HB.out.size
      cases o' with
      | none =>
        have HE:Hid (R=(14,[])):=by unfold Hid;rw[HR2.out,hS.out,HN.out HFd.out];rfl
        have hcu:zAF (none:Option (List ByteArray))=14:=rfl;rw[hcu];clear q5 qz5;go_wp2_with fail
        go_ret2
        rw[HE.out];exact⟨_,rfl,uJ _ _ HBv.out.size,HBv.out.later (Below.new _ _)⟩
      | some x =>
        have HE:Hid (uE kv ns=(uE kv (ns.drop (k+1))).map ((acc++[x])++·)):=by
         unfold Hid;rw[hS.out,HSo.out x HFd.out,Option.map_map]
         congr 1
         funext l
         simp
        have hcu:zAF (some x)=0:=rfl;rw[hcu];have HO:=zh HRW5.out;have HAP:=zh (Own.OwnL.fresh HRW.out HS5.out HAPB);have hrow:Hid (∀oo,(W5.alloc oo).ownsRow w3.heap.size 40 1 u7 acc.length (Own.flat rowK acc vs)):=fun oo=>Own.own_later HO.out.row (Below.new _ _);have hx5:Own.SubO W5 w3.heap.size (.slice AC x.length cc) x:=Own.own_base HS5.out (by simp;omega);have HX5:=zh hx5;clear hx5;go_wp2_with (at_builtin;refine wpList_append_own _ rfl (.tmp 46) (.tmp 48) 35 rfl w3.heap.size 40 i0 _ 1 24 Tryz.underlying35 hi hz0 hz1 hz2 rfl (by decide) _ acc.length _ rfl (hrow.out _) ⟨_,0,none⟩ 1 1 [.slice AC x.length cc] rfl rfl ?n1 ?n2 ?n3 ?n4 ?n5 ?_);all_goals try (first | exact wC _ #[.slice AC x.length cc] _ _ (by simp) | (simp[Value.oneCell'];done) | (unfold maxLen;omega) | omega | (simp;omega))
        intro v1 w6 hown1 hg1 _;have HN6:Hid (RowsI w6 w3.heap.size v1 (acc++[x])):=by have hX6:Own.SubO (W5.alloc (.cells #[.slice AC x.length cc] 40)) w3.heap.size (.slice AC x.length cc) x:=Own.own_later HX5.out (Below.new _ _);refine⟨vs++[.slice AC x.length cc],Own.OwnL.snoc (HO.out.later (Below.new W5 (.cells #[.slice AC x.length cc] 40))) hX6 HAP.out ?_ hg1 (by decide)⟩;show w6.ownsRow w3.heap.size 40 1 v1 (acc.length+1) (Own.flat rowK acc vs++[.slice AC x.length cc]);rw[hacc];exact hown1
        have HB6:=zh ((HB5.out.later (Below.new W5 (.cells #[.slice AC x.length cc] 40))).grown hg1 (by simp;omega) (fun g hg'=>((hrow.out (.cells #[] 0)).lt g hg').1));clear hown1 hg1;go_wp2_with fail;go_roundw;case rel=>exact⟨k+1,acc++[x],by omega,by go_num,by simp[hacc],HN6.out,HB6.out,HE.out⟩
        case measure=>simp[intOf];omega
  · have HE:Hid (R=(0,acc)):=by unfold Hid;rw[HR2.out,hS.out,List.drop_of_length_le (by rw[HM.out];omega)];simp[uE]
    go_wp2_with fail
    go_ret2
    rw[HE.out];exact⟨_,rfl,⟨vs,HRW.out.base HB3.out.size⟩,HBw.out⟩
end Go.Proofs.YtfpcjhajjejpdaaGreatDoor
namespace Go.Proofs.YtfpcjhajjejpdaaGreatDoor
open Go.RowKit
def yI (cols:List ByteArray) (wh:List CondD) (row:List ByteArray):Bool:=wh.all fun c=>xU (row.getD (xA cols c.col).toNat ByteArray.empty) c
theorem zLJ (p:CondD→Bool) (l:List CondD) (k:Nat) (h:k<l.length):(l.drop k).all p=(p (l.getD k default)&&(l.drop (k+1)).all p):=by
 rw[List.drop_eq_getElem_cons h,List.all_cons,List.getD_eq_getElem?_getD,List.getElem?_eq_getElem h];rfl
set_option maxRecDepth 100000 in
theorem zGZ (b0 b1 b2 b3 c0 c1 c2 c3 c4 c5 r0:Value) (b:TableD) (d:QueryD) (row:List ByteArray) (w:World) (hb:TableR w w.heap.size b0 b1 b2 b3 b) (h:QueryR w w.heap.size c0 c1 c2 c3 c4 c5 d) (hr:RowR w w.heap.size r0 row) (hbs:b.small) (hs:d.small) (hrs:wH row)
 (hfit:∀c∈d.wher,0≤xA b.cols c.col) (hlen:row.length=b.cols.length) :
 Calls Tryz.prog 120 #[.agg #[b0,b1,b2,b3],.agg #[c0,c1,c2,c3,c4,c5],.agg #[r0]] w fun e w'=>e=.returned (.bool (yI b.cols d.wher row))∧Below w.heap.size w w':=by
 obtain⟨rfl,rfl,⟨A2,n2,p2,rfl,s2,k2⟩,⟨A3,n3,p3,rfl,s3,k3⟩⟩:=hb;obtain⟨rfl,⟨B1,m1,q1,rfl,t1,l1⟩,⟨B2,m2,q2,rfl,t2,l2⟩,rfl,rfl,rfl⟩:=h;obtain⟨R0,rn,rc,rfl,hS,hrc⟩:=hr;have hn2:n2≤1048576:=by rw[←s2.1];exact hbs.2.2.1.1
 have hm2:m2≤1048576:=by rw[←t2.1];exact hs.2.2.1.1
 have HKP:=zh (fun x W (hW:Below w.heap.size w W)=>(yE A2 n2 p2 b.cols x W (s2.later hW) hn2).mono (R':=fun e w'=>e=.returned (.int .i64 (xA b.cols x))∧Below W.heap.size W w') (fun e w' ⟨h1,h2⟩=>⟨h1,h2 ▸ Below.refl _ _⟩));have HKC:=zh (fun k (hk:k<d.wher.length) j (hj:j<row.length) c0 c1 c2 W (hW:CondR W W.heap.size c0 c1 c2 (d.wher.getD k default))=>zDv (row.getD j ByteArray.empty) c0 c1 c2 (d.wher.getD k default) W hW (hs.2.2.1.2 _ (uB _ k hk)) (hrs.2 _ (uD row j hj)));have HFit:Hid (∀k,k<d.wher.length→∃j:Nat,xA b.cols (d.wher.getD k default).col=j∧j<row.length):=fun k hk=>by have h1:=hfit _ (uB _ k hk);have h2:=(xD b.cols (d.wher.getD k default).col).2;exact⟨(xA b.cols (d.wher.getD k default).col).toNat,by omega,by rw[hlen];omega⟩
 have HR:Hid (yI b.cols d.wher row=d.wher.all fun c=>xU (row.getD (xA b.cols c.col).toNat ByteArray.empty) c):=rfl;have HT:=zh t2;have HSS:=zh hS;clear s2 s3 t1 t2 hS hbs hs hrs hfit hlen;generalize yI b.cols d.wher row=R at *;have HB0:=zh (yG w (.cells #[.string b.name,.string b.glob,.slice A2 n2 p2,.slice A3 n3 p3] 29) (.cells #[.string d.table,.slice B1 m1 q1,.slice B2 m2 q2,.string d.order,.bool d.desc,.int .i64 d.limit] 32) (.cells #[.slice R0 rn rc] 40));obtain⟨WB,hWB⟩:∃WB,WB=((w.alloc (.cells #[.string b.name,.string b.glob,.slice A2 n2 p2,.slice A3 n3 p3] 29)).alloc (.cells #[.string d.table,.slice B1 m1 q1,.slice B2 m2 q2,.string d.order,.bool d.desc,.int .i64 d.limit] 32)).alloc (.cells #[.slice R0 rn rc] 40):=⟨_,rfl⟩;have HX0:Hid (Blk WB w.heap.size 29 #[.string b.name,.string b.glob,.slice A2 n2 p2,.slice A3 n3 p3]):=by subst hWB;exact zK0 _ _ _ _
 have HX1:Hid (Blk WB (w.heap.size+1) 32 #[.string d.table,.slice B1 m1 q1,.slice B2 m2 q2,.string d.order,.bool d.desc,.int .i64 d.limit]):=by subst hWB;exact vG _ _ _ _
 have HX2:Hid (Blk WB (w.heap.size+1+1) 40 #[.slice R0 rn rc]):=by subst hWB;exact zG0 _ _ _ _
 have HBB:Hid (Below w.heap.size w WB):=by subst hWB;exact HB0.out
 have HS1:Hid (∀W',Below WB.heap.size WB W'→(W'.cell? ⟨w.heap.size,2,none⟩=some (.slice A2 n2 p2)∧W'.cell? ⟨w.heap.size+1,2,none⟩=some (.slice B2 m2 q2)∧W'.cell? ⟨w.heap.size+1+1,0,none⟩=some (.slice R0 rn rc))):=fun W' hW=>⟨(HX0.out.later hW HX0.out.lt).at 2 rfl,(HX1.out.later hW HX1.out.lt).at 2 rfl,(HX2.out.later hW HX2.out.lt).at 0 rfl⟩;go_enter Tryz.func120,Tryz.ntmps120;go_wp2_with fail;rw[←hWB];clear hWB HB0;go_loopw [7] (fun i wr=>∃k:Nat,k≤m2∧i=.int .i64 k∧Below WB.heap.size WB wr∧Hid (R=(d.wher.drop k).all fun c=>xU (row.getD (xA b.cols c.col).toNat ByteArray.empty) c)) (fun i _=>m2-(intOf i).toNat);case atStart=>exact⟨0,Nat.zero_le _,rfl,Below.refl _ _,HR.out⟩
 case round =>
  obtain⟨k,hk,rfl,hb,hS⟩:=hrel;have HB:=zh hb;have HBw:=zh (HBB.out.later hb);clear hb;obtain⟨x0,x1,x2⟩:=HS1.out _ HB.out;by_cases hlt:k<m2
  · have hl:k<d.wher.length:=by rw[HT.out.1];exact hlt
    obtain⟨bb,o,rfl,hbB,hcn⟩:=(HT.out.later HBw.out).2 (by omega);obtain⟨c0,c1,c2,k0,k1,k2',hr⟩:=hcn k hlt;clear hcn;obtain⟨j,hj1,hj2⟩:=HFit.out k hl;have HSt:=zh (zLJ (fun c=>xU (row.getD (xA b.cols c.col).toNat ByteArray.empty) c) d.wher k hl);have HKk:=zh (fun W hW=>HKC.out k hl j hj2 c0 c1 c2 W hW);have HCR:=zh hr;have hjn:j<rn:=by rw[←HSS.out.1];exact hj2
    obtain⟨rb,ro,rfl,hrb,hrcell⟩:=(HSS.out.later HBw.out).2 (by omega);have hck:=hrcell j hjn;have HPj:Hid (∀W,Below w.heap.size w W→Calls Tryz.prog 90 #[.slice A2 n2 p2,.string (d.wher.getD k default).col] W fun e w'=>e=.returned (.int .i64 (j:Nat))∧Below W.heap.size W w'):=fun W hW=>by have h:=HKP.out (d.wher.getD k default).col W hW;rw[hj1]at h;exact h
    have HTT:Hid (xU (row.getD (xA b.cols (d.wher.getD k default).col).toNat ByteArray.empty) (d.wher.getD k default)=xU (row.getD j ByteArray.empty) (d.wher.getD k default)):=by unfold Hid;rw[hj1];rfl
    clear hrcell hl hj2 hj1;generalize d.wher.getD k default=cd at *;generalize row.getD j ByteArray.empty=cell at *;obtain⟨rfl,rfl,rfl⟩:=hr;generalize xU cell cd=y at *;have hkz:(k:Int)<(m2:Int):=by omega
    have hjz:(j:Int)<(rn:Int):=by omega
    have HSW:Hid (∀W',Below wr.heap.size wr W'→((W'.cell? ⟨w.heap.size,2,none⟩=some (.slice A2 n2 p2)∧W'.cell? ⟨w.heap.size+1,2,none⟩=some (.slice (some ⟨bb,o,none⟩) m2 q2)∧W'.cell? ⟨w.heap.size+1+1,0,none⟩=some (.slice (some ⟨rb,ro,none⟩) rn rc))∧W'.cell? ⟨bb,o+k*3,none⟩=some (.string cd.col)∧W'.cell? ⟨bb,o+k*3+1,none⟩=some (.int .i64 cd.op)∧W'.cell? ⟨bb,o+k*3+2,none⟩=some (.string cd.val)∧W'.cell? ⟨rb,ro+j,none⟩=some (.string cell))):=fun W' hW=>⟨HS1.out _ (HB.out.later hW),cell_later hW k0,cell_later hW k1,cell_later hW k2',cell_later hW hck⟩;go_wp2_with fail
    go_region_held3 (fun W'=>(W'.cell? ⟨w.heap.size,2,none⟩=some (.slice A2 n2 p2)∧W'.cell? ⟨w.heap.size+1,2,none⟩=some (.slice (some ⟨bb,o,none⟩) m2 q2)∧W'.cell? ⟨w.heap.size+1+1,0,none⟩=some (.slice (some ⟨rb,ro,none⟩) rn rc))∧W'.cell? ⟨bb,o+k*3,none⟩=some (.string cd.col)∧W'.cell? ⟨bb,o+k*3+1,none⟩=some (.int .i64 cd.op)∧W'.cell? ⟨bb,o+k*3+2,none⟩=some (.string cd.val)∧W'.cell? ⟨rb,ro+j,none⟩=some (.string cell))
     (first | exact HSW.out _ hb2 | exact HSW.out _ hb1 | exact HSW.out _ (Below.refl _ _).drew)
     (first
       | (go_at_call 90;refine(HPj.out _ (by exact HBw.out.drew)).mono ?_;rintro e w1 ⟨rfl,hb1'⟩;have hb1:=wD hb1';clear hb1')
       | (go_at_call 175;refine(HKk.out _ (by exact HCR.out.later hb1)).mono ?_;rintro e w2 ⟨rfl,hb2'⟩;have hb2:=hb1.later hb2';clear hb2'))
    have HB2:=zh (HB.out.later hb2);have HBw2:=zh (HBw.out.later hb2);clear hb1 hb2 x0 x1 x2;cases y
    · have HE:Hid (R=false):=by unfold Hid;rw[hS.out,HSt.out,HTT.out];rfl
      go_wp2_with fail;go_ret;exact⟨zA0 HE.out.symm,HBw2.out⟩
    · have HE:Hid (R=(d.wher.drop (k+1)).all fun c=>xU (row.getD (xA b.cols c.col).toNat ByteArray.empty) c):=by unfold Hid;rw[hS.out,HSt.out,HTT.out];rfl
      go_wp2_with fail;go_roundw;case rel=>exact⟨k+1,by omega,by go_num,HB2.out,HE.out⟩
      case measure=>simp[intOf];omega
  · have HE:Hid (R=true):=by unfold Hid;rw[hS.out,List.drop_of_length_le (by rw[HT.out.1];omega)];rfl
    go_wp2_with fail;go_ret;exact⟨zA0 HE.out.symm,HBw.out⟩
end Go.Proofs.YtfpcjhajjejpdaaGreatDoor
namespace Go.Proofs.YtfpcjhajjejpdaaGreatDoor.Stab
structure Weak {α:Type} (lt:α→α→Bool):Prop where
 irr:∀a,lt a a=false
 trans:∀a b c,lt a b=true→lt b c=true→lt a c=true
 neg:∀a b c,lt a b=false→lt b c=false→lt a c=false
section
variable {α:Type} {lt:α→α→Bool}
def Srt (lt:α→α→Bool) (l:List α):Prop:=l.Pairwise fun a b=>lt b a=false
def mrg (lt:α→α→Bool) (xs ys:List α):List α:=xs.merge ys fun x y=>!lt y x
theorem mrg_nil_left (ys:List α):mrg lt [] ys=ys:=by simp[mrg]
theorem mrg_nil_right (xs:List α):mrg lt xs []=xs:=by simp[mrg]
theorem mrg_cons (x y:α) (xs ys:List α):mrg lt (x::xs) (y::ys)=if lt y x=true then y::mrg lt (x::xs) ys else x::mrg lt xs (y::ys):=by
 unfold mrg;rw[List.cons_merge_cons];cases lt y x <;> rfl
theorem mrg_len:∀(xs ys:List α),(mrg lt xs ys).length=xs.length+ys.length:=fun xs ys=>by
 unfold mrg;exact List.length_merge _ _ _
theorem zMW (xs ys:List α) (a:α):a∈mrg lt xs ys↔a∈xs∨a∈ys:=by
 unfold mrg;exact List.mem_merge
theorem zMV (h:Weak lt) {xs ys:List α} (hx:Srt lt xs) (hy:Srt lt ys):Srt lt (mrg lt xs ys):=by
 have:=List.pairwise_merge (le:=fun x y=>!lt y x) (fun a b c h1 h2=>by
  simp only[Bool.not_eq_true']at *
  exact h.neg c b a h2 h1) (fun a b=>by
  cases h1:lt b a
  · rfl
  · cases h2:lt a b
    · rfl
    · have:=h.trans _ _ _ h1 h2;rw[h.irr]at this
      cases this) xs ys (hx.imp (fun h=>by simpa using h)) (hy.imp (fun h=>by simpa using h))
 exact this.imp (fun h=>by simpa using h)
theorem wS:∀(u v x y:List α),(∀b∈x,∀a∈v,lt b a=true)→(∀a∈u,∀b∈y,lt b a=false)→mrg lt (u++v) (x++y)=mrg lt u x++mrg lt v y
 | [],v,[],y,_,_=>by simp[mrg_nil_left]
 | a::u,v,[],y,h1,h2=>by
   have ih:=wS u v [] y h1 (fun a' ha'=>h2 a' (List.mem_cons_of_mem _ ha'));simp only[List.nil_append,mrg_nil_right]at ih ⊢
   match y,h2,ih with
   | [],_,_=>simp[mrg_nil_right]
   | b::y,h2,ih=>rw[List.cons_append,mrg_cons,if_neg (by rw[h2 a (by simp) b (by simp)];simp),ih];rfl
 | [],v,b::x,y,h1,h2=>by
   have ih:=wS [] v x y (fun b' hb'=>h1 b' (List.mem_cons_of_mem _ hb')) h2;simp only[List.nil_append,mrg_nil_left]at ih ⊢
   match v,h1,ih with
   | [],_,_=>simp[mrg_nil_left]
   | a::v,h1,ih=>rw[List.cons_append,mrg_cons,if_pos (h1 b (by simp) a (by simp)),ih];rfl
 | a::u,v,b::x,y,h1,h2=>by
   by_cases h:lt b a=true
   · have ih:=wS (a::u) v x y (fun b' hb'=>h1 b' (List.mem_cons_of_mem _ hb')) h2;simp only[List.cons_append]at ih ⊢;rw[mrg_cons,mrg_cons,if_pos h,if_pos h,ih];rfl
   · have ih:=wS u v (b::x) y h1 (fun a' ha'=>h2 a' (List.mem_cons_of_mem _ ha'));simp only[List.cons_append]at ih ⊢;rw[mrg_cons,mrg_cons,if_neg h,if_neg h,ih];rfl
theorem zJC {r:α} {A B:List α} (hA:∀x∈A,lt r x=false) (hB:∀x∈B,lt r x=true):mrg lt (A++B) [r]=A++r::B:=by
 have h:=wS (lt:=lt) A B [] [r] (fun b hb=>by cases hb) (fun a ha b hb=>by rw[List.mem_singleton.1 hb];exact hA a ha);rw[List.nil_append,mrg_nil_right]at h;rw[h]
 congr 1
 have h':=wS (lt:=lt) [] B [r] [] (fun b hb a ha=>by rw[List.mem_singleton.1 hb];exact hB a ha) (fun a ha=>by cases ha);simpa [mrg_nil_left,mrg_nil_right] using h'
theorem zJx {r:α} {A B:List α} (hA:∀x∈A,lt x r=true) (hB:∀x∈B,lt x r=false):mrg lt [r] (A++B)=A++r::B:=by
 have h:=wS (lt:=lt) [] [r] A B (fun b hb a ha=>by rw[List.mem_singleton.1 ha];exact hA b hb) (fun a ha=>by cases ha);rw[List.nil_append,mrg_nil_left]at h;rw[h]
 congr 1
 have h':=wS (lt:=lt) [r] [] [] B (fun b hb=>by cases hb) (fun a ha b hb=>by rw[List.mem_singleton.1 ha];exact hB b hb);simpa [mrg_nil_left,mrg_nil_right] using h'
theorem zCE (h:Weak lt) (r:α):∀(X Y:List α),mrg lt (mrg lt X Y) [r]=mrg lt X (mrg lt Y [r])
 | [],Y=>by simp[mrg_nil_left]
 | x::xs,[]=>by simp[mrg_nil_right,mrg_nil_left]
 | x::xs,y::ys=>by
   by_cases h1:lt y x=true
   · have ih:=zCE h r (x::xs) ys;rw[mrg_cons x y,if_pos h1,mrg_cons y r,mrg_cons y r ys];by_cases h2:lt r y=true
     · rw[if_pos h2,if_pos h2,mrg_cons x r,if_pos (h.trans _ _ _ h2 h1),mrg_nil_right,mrg_nil_right,mrg_cons x y,if_pos h1]
     · rw[if_neg h2,if_neg h2,mrg_cons x y,if_pos h1,ih]
   · have ih:=zCE h r xs (y::ys);rw[mrg_cons x y,if_neg h1];by_cases h2:lt r y=true
     · by_cases h3:lt r x=true
       · rw[mrg_cons x r,if_pos h3,mrg_cons y r,if_pos h2,mrg_cons x r,if_pos h3,mrg_nil_right,mrg_nil_right,mrg_cons x y,if_neg h1]
       · rw[mrg_cons x r,if_neg h3,ih,mrg_cons y r,if_pos h2,mrg_cons x r,if_neg h3]
     · have h3:¬lt r x=true:=by have:=h.neg r y x (by simpa using h2) (by simpa using h1);rw[this];simp
       rw[mrg_cons x r,if_neg h3,ih,mrg_cons y r,if_neg h2,mrg_cons x y,if_neg h1]
termination_by X Y=>X.length+Y.length
def srt (lt:α→α→Bool) (l:List α):List α:=l.foldl (fun acc r=>mrg lt acc [r]) []
theorem srt_snoc (l:List α) (r:α):srt lt (l++[r])=mrg lt (srt lt l) [r]:=by simp[srt]
theorem srt_srt (h:Weak lt) (l:List α):Srt lt (srt lt l):=by
 unfold srt
 have:∀(l acc:List α),Srt lt acc→Srt lt (l.foldl (fun acc r=>mrg lt acc [r]) acc):=by
  intro l
  induction l with
  | nil=>exact fun acc h=>h
  | cons r l ih=>exact fun acc ha=>ih _ (zMV h ha (List.pairwise_singleton _ _))
 exact this l [] List.Pairwise.nil
theorem srt_append (h:Weak lt) (A:List α) (B:List α):srt lt (A++B)=mrg lt (srt lt A) (srt lt B):=by
 have:∀(B acc Y:List α),B.foldl (fun acc r=>mrg lt acc [r]) (mrg lt acc Y)=mrg lt acc (B.foldl (fun acc r=>mrg lt acc [r]) Y):=by
  intro B
  induction B with
  | nil=>exact fun acc Y=>rfl
  | cons r B ih=>intro acc Y;rw[List.foldl_cons,List.foldl_cons,zCE h,ih]
 have h2:=this B (srt lt A) [];rw[mrg_nil_right]at h2;unfold srt at h2 ⊢;rw[List.foldl_append,h2]
theorem srt_len (l:List α):(srt lt l).length=l.length:=by
 have:∀(l acc:List α),(l.foldl (fun acc r=>mrg lt acc [r]) acc).length=acc.length+l.length:=by
  intro l
  induction l with
  | nil=>exact fun acc=>rfl
  | cons r l ih=>intro acc;rw[List.foldl_cons,ih,mrg_len];simp;omega
 simpa [srt] using this l []
theorem srt_mem (l:List α) (a:α):a∈srt lt l↔a∈l:=by
 have:∀(l acc:List α),a∈l.foldl (fun acc r=>mrg lt acc [r]) acc↔a∈acc∨a∈l:=by
  intro l
  induction l with
  | nil=>intro acc;simp
  | cons r l ih=>intro acc;rw[List.foldl_cons,ih,zMW];simp[or_assoc]
 simpa [srt] using this l []
end
end Go.Proofs.YtfpcjhajjejpdaaGreatDoor.Stab
