import Derived.Test.YtfpcjhajjejpdaaGreatDoorY20
import Derived.Test.YtfpcjhajjejpdaaGreatDoorY22
import Derived.Test.YtfpcjhajjejpdaaGreatDoorY12
import Derived.Test.YtfpcjhajjejpdaaGreatDoorY18
import Derived.Deep.AppendLies
set_option maxHeartbeats 4000000
open Go.Lib renaming hid → zh
namespace Go.Proofs.YtfpcjhajjejpdaaGreatDoor
open Go.RowKit
set_option linter.unusedVariables false
def wG (cols:List ByteArray) (ns:List NodeD) (key:ByteArray):Int × List ByteArray :=
 if atI ns key<0 then (3,[]) else (zAF (zJ0 cols key (ns.getD (atI ns key).toNat default).val),(zJ0 cols key (ns.getD (atI ns key).toNat default).val).getD [])
def zGK (r:Int × List ByteArray) (w:World) (e:Ending) (w':World):Prop:=∃v,e=.returned (.tuple #[.agg #[v],.int .i64 r.1])∧Own.SubO w' w.heap.size v r.2∧Below w.heap.size w w'
set_option maxRecDepth 100000 in
theorem zHb (A:Option Addr) (n c:Nat) (b0 b1 b2 b3:Value) (fs:List NodeD) (b:TableD) (key:ByteArray) (w:World) (ht:Nodes w w.heap.size A n fs) (hb:TableR w w.heap.size b0 b1 b2 b3 b) (hts:vC fs) (htr:uA fs=true) (hpos:0<b.cols.length) (hn5:b.cols.length≤5) (hk:key.size≤1048576) :
 Calls Tryz.prog 88 #[.agg #[.slice A n c],.agg #[b0,b1,b2,b3],.string key] w (zGK (wG b.cols (vA b.glob fs) key) w):=by
 obtain⟨i0,hi,hz0,hz1,hz2⟩:=info_parts yU;have HK3:=zh (fun W (hW:Below w.heap.size w W)=>zBs A n c b0 b1 b2 b3 fs b W (ht.later hW) (hb.later hW) hts);have HKU:=zh (fun W (hW:Below w.heap.size w W) val hv=>zCx b0 b1 b2 b3 b key val W (hb.later hW) hpos hn5 hk hv);have HL:=zh (zCS (g:=b.glob) hts);have H2:=zh (zAZ (g:=b.glob) (fs:=fs));have HV:Hid (∀d∈vA b.glob fs,d.val.size≤64):=fun d hd=>zCk htr d (zBa hd);have HBD:=zh (zKE (vM key) (vA b.glob fs) 0);have HR:Hid (wG b.cols (vA b.glob fs) key=if atI (vA b.glob fs) key<0 then (3,[]) else (zAF (zJ0 b.cols key ((vA b.glob fs).getD (atI (vA b.glob fs) key).toNat default).val),(zJ0 b.cols key ((vA b.glob fs).getD (atI (vA b.glob fs) key).toNat default).val).getD [])):=rfl;obtain⟨rfl,rfl,⟨A2,n2,p2,rfl,s2,k2⟩,⟨A3,n3,p3,rfl,s3,k3⟩⟩:=hb;clear s2 s3 ht hts htr hpos hn5 hk;generalize wG b.cols (vA b.glob fs) key=R at *;generalize vA b.glob fs=ns at *;have HAT:Hid (atI ns key=vJ (vM key) ns 0):=rfl;generalize hup:zJ0 b.cols key=up at *;clear hup;generalize b.name=nm at *;generalize b.glob=gl at *;have HB0:=zh (yG w (.cells #[.slice A n c] 26) (.cells #[.string nm,.string gl,.slice A2 n2 p2,.slice A3 n3 p3] 29) (.cells #[.slice none 0 0] 40));have HX1:=zh (vG w (.cells #[.slice A n c] 26) (.cells #[.string nm,.string gl,.slice A2 n2 p2,.slice A3 n3 p3] 29) (.cells #[.slice none 0 0] 40));have HX2:=zh (zG0 w (.cells #[.slice A n c] 26) (.cells #[.string nm,.string gl,.slice A2 n2 p2,.slice A3 n3 p3] 29) (.cells #[.slice none 0 0] 40));go_enter Tryz.func88,Tryz.ntmps88;go_wp2_with fail;refine(HK3.out _ HB0.out).mono ?_;rintro e w1 ⟨v,cs,rfl,ho,hc,hb1⟩;obtain⟨A4,cap4,rfl,hcap4,hN4⟩:=zM0 ho rfl hc hb1;have HN4:=zh hN4;have HLB:Hid (∀g,(Value.slice A4 ns.length cap4).ownBlock=some g→w.heap.size+3≤g):=fun g hg=>by have h1:=(ho.lt g hg).1;simpa using h1
 have HB1:=zh (HB0.out.later hb1);have HY1:=zh (Blk.later HX1.out hb1 (by first | (simp;done) | (simp;omega)));have HY2:=zh (Blk.later HX2.out hb1 (by first | (simp;done) | (simp;omega)));clear hb1 ho hc hN4 HX1 HX2 HK3;go_wp2_with fail;refine(zGr A4 ns.length cap4 ns key _ HN4.out HL.out H2.out).mono ?_;rintro e w2 ⟨rfl,hb2⟩;have HN5:=zh (HN4.out.later hb2);have HB2:=zh (HB1.out.later hb2);have HZ1:=zh (HY1.out.later hb2 HY1.out.lt);have HZ2:=zh (HY2.out.later hb2 HY2.out.lt);clear hb2 HN4 HB1 HY1 HY2;have p1:=HZ1.out.cell;have p2':=HZ2.out.cell;have f2:=HZ2.out.frozen;have z1:=HZ1.out.lt;have z2:=HZ2.out.lt;by_cases hneg:atI ns key<0
 · have HE:Hid (R=(3,[])):=by unfold Hid;rw[HR.out,if_pos hneg]
   clear HR HBD;generalize atI ns key=ix at *;go_wp2_with fail;refine bodyPost_ret (v:=.tuple #[.agg #[.slice none 0 0],.int .i64 3]) (by simp[results,Tryz.results88,go_sem,p2']) rfl ?_;rw[HE.out];exact⟨_,rfl,Own.sub_nil _ _,HB2.out.setCell (by first | (simp;done) | (simp;omega) | (show w.heap.size≤_;omega)) _⟩
 · obtain⟨k,hk⟩:∃k:Nat,atI ns key=(k:Int):=⟨(atI ns key).toNat,by omega⟩;have hkl:k<ns.length:=by have h1:=HBD.out.2;rw[←HAT.out,hk]at h1;omega
   have HE:Hid (R=(zAF (up (ns.getD k default).val),(up (ns.getD k default).val).getD [])):=by unfold Hid;rw[HR.out,if_neg hneg,hk];rfl
   have HKK:=zh (fun W (hW:Below w.heap.size w W)=>HKU.out W hW (ns.getD k default).val (HV.out _ (uB ns k hkl)));obtain⟨bb,o,rfl,hbB,hcc⟩:=HN5.out.2 (by omega);have HBB:=zh (HLB.out bb rfl);obtain⟨c0,c1,c2,k0,k1,k2',hr⟩:=hcc k hkl;obtain⟨e0,_,e2⟩:=hr;subst e0 e2;clear hcc HR HBD HKU HV HAT;rw[hk];rw[hk]at hneg;clear hk;generalize (ns.getD k default).val=vv at *;generalize (ns.getD k default).name=vn at *;generalize hnl:ns.length=nl at *;clear hnl;have y0:=p1 0;have y1:=p1 1;have y2:=p1 2;have y3:=p1 3;have q2:=p2' 0;simp at y0 y1 y2 y3 q2;have HS:Hid (∀W',Below w2.heap.size w2 W'→(W'.cell? ⟨w.heap.size+1,0,none⟩=some (.string nm)∧W'.cell? ⟨w.heap.size+1,1,none⟩=some (.string gl)∧W'.cell? ⟨w.heap.size+1,2,none⟩=some (.slice A2 n2 p2)∧W'.cell? ⟨w.heap.size+1,3,none⟩=some (.slice A3 n3 p3)∧W'.cell? ⟨bb,o+k*3+2,none⟩=some (.string vv))):=fun W' hW=>⟨(hW.cell (p:=⟨w.heap.size+1,0,none⟩) z1).trans y0,(hW.cell (p:=⟨w.heap.size+1,1,none⟩) z1).trans y1,(hW.cell (p:=⟨w.heap.size+1,2,none⟩) z1).trans y2,(hW.cell (p:=⟨w.heap.size+1,3,none⟩) z1).trans y3,(hW.cell (p:=⟨bb,o+k*3+2,none⟩) hbB).trans k2'⟩;go_wp2_with fail
   go_region_held3 (fun w'=>w'.cell? ⟨w.heap.size+1,0,none⟩=some (.string nm)∧w'.cell? ⟨w.heap.size+1,1,none⟩=some (.string gl)∧w'.cell? ⟨w.heap.size+1,2,none⟩=some (.slice A2 n2 p2)∧w'.cell? ⟨w.heap.size+1,3,none⟩=some (.slice A3 n3 p3)∧w'.cell? ⟨bb,o+k*3+2,none⟩=some (.string vv)) (first | exact HS.out _ HBX.out | exact HS.out _ (Below.refl w2.heap.size w2).drew | (have h5:=HS.out _ HBX.out;have h6:=HBB.out;exact⟨(World.cell?_setCell_far _ _ _ _ (by simp)).trans h5.1,(World.cell?_setCell_far _ _ _ _ (by simp)).trans h5.2.1,(World.cell?_setCell_far _ _ _ _ (by simp)).trans h5.2.2.1,(World.cell?_setCell_far _ _ _ _ (by simp)).trans h5.2.2.2.1,(World.cell?_setCell_far _ _ _ _ (by simp;omega)).trans h5.2.2.2.2⟩))
    ((go_at_call 119;refine(HKK.out _ HB2.out.drew).mono ?_;rintro e w4 ⟨v',rfl,hsub,hb4'⟩;obtain⟨AC,cc,rfl,hcc,hmc,hac⟩:=Own.own_slice hsub;have HSUB:=zh hsub;have HBX:=zh (wD hb4');have HQ:=zh (Blk.later HZ2.out HBX.out z2);have q0:=Blk.cell HQ.out 0;have qf:=Blk.frozen HQ.out 0;have qz:=HQ.out.lt;simp at q0;clear hsub hb4' hac))
   go_wp2_with fail;refine bodyPost_ret (v:=.tuple #[.agg #[.slice AC _ cc],.int .i64 _]) (by simp[results,Tryz.results88,go_sem,q0];try first | exact rfl | exact⟨rfl,rfl⟩) rfl ?_;rw[HE.out];refine⟨_,rfl,?_,(HB2.out.later HBX.out).setCell (by first | (simp;done) | (simp;omega) | (show w.heap.size≤_;omega)) _⟩;have hS2:=Own.own_base HSUB.out (base:=w.heap.size) (by have:=HB2.out.size;simp;omega);exact World.ownsRow.kept hS2 (row:=some (w.heap.size+1+1)) (Own.grown_set _ _ _ _) (.inr (fun e=>by have h1:=(HSUB.out.lt _ e).1;have h2:=z2;simp at h1;omega))
end Go.Proofs.YtfpcjhajjejpdaaGreatDoor
namespace Go.Proofs.YtfpcjhajjejpdaaGreatDoor
open Go.RowKit
set_option linter.unusedVariables false
theorem zKD (p:ByteArray→Bool):∀(l:List ByteArray) (k j:Nat),j<l.length→p (l.getD j ByteArray.empty)=true→(∀i,i<j→p (l.getD i ByteArray.empty)=false)→xQ p l k=((k+j:Nat):Int)
 | [],_,_,hj,_,_=>by simp at hj
 | x::r,k,0,_,hp,_=>by simp only[List.getD_cons_zero]at hp;simp[xQ,hp]
 | x::r,k,j+1,hj,hp,hn=>by
   have h0:=hn 0 (by omega);simp only[List.getD_cons_zero]at h0;have ih:=zKD p r (k+1) j (by simpa using hj) (by simpa using hp) (fun i hi=>by simpa using hn (i+1) (by omega));unfold xQ;rw[if_neg (by rw[h0];simp),ih]
   congr 1
   omega
theorem zIv (p:ByteArray→Bool):∀(l:List ByteArray) (k:Nat),0≤xQ p l k→∃j,j<l.length∧xQ p l k=((k+j:Nat):Int)∧p (l.getD j ByteArray.empty)=true
 | [],_,h=>by simp[xQ]at h
 | x::r,k,h=>by
   unfold xQ at h ⊢;by_cases hd:p x=true
   · exact⟨0,by simp,by rw[if_pos hd];rfl,by simpa using hd⟩
   · rw[if_neg hd]at h ⊢;obtain⟨j,h1,h2,h3⟩:=zIv p r (k+1) h;exact⟨j+1,by simpa using h1,by rw[h2];congr 1;omega,by simpa using h3⟩
theorem zDx {l:List ByteArray} {x:ByteArray} (h:0≤xA l x):∃j,j<l.length∧xA l x=(j:Int)∧l.getD j ByteArray.empty=x:=by
 obtain⟨j,h1,h2,h3⟩:=zIv _ l 0 h;exact⟨j,h1,by rw[show xA l x=xQ (fun y=>decide (y=x)) l 0 from rfl,h2];simp,of_decide_eq_true h3⟩
theorem zHD {b:TableD} (h:xP b=true):∀k,k<b.cols.length→xB (b.cols.getD k ByteArray.empty)=true∧xA (b.cols.take k) (b.cols.getD k ByteArray.empty)<0:=by
 unfold xP at h;simp only[Bool.and_eq_true]at h;intro k hk;have h2:=(zS0 (vL b.cols) b.cols.length 0).1 h.2.2.2.2.2.1 k (by omega) (by omega);unfold vL at h2;simpa using h2
theorem zJs {b:TableD} (h:xP b=true) {k:Nat} (hk:k<b.cols.length):xA b.cols (b.cols.getD k ByteArray.empty)=(k:Int):=by
 have h1:=(zHD h k hk).2
 have h2:=zKD (fun y=>decide (y=b.cols.getD k ByteArray.empty)) b.cols 0 k hk (by simp) (fun i hi=>by
  by_cases e:b.cols.getD i ByteArray.empty=b.cols.getD k ByteArray.empty
  · exfalso;have h3:=zDy (b.cols.take k) (b.cols.getD k ByteArray.empty);rw[decide_eq_false (by omega)]at h3;have h4:((b.cols.take k).any fun y=>decide (y=b.cols.getD k ByteArray.empty))=true:=by rw[List.any_eq_true];refine⟨b.cols.getD i ByteArray.empty,?_,by rw[e];simp⟩;rw[List.getD_eq_getElem?_getD,List.getElem?_eq_getElem (by omega),Option.getD_some];rw[List.mem_take_iff_getElem];exact⟨i,by omega,rfl⟩
    rw[←h3]at h4;cases h4
  · exact decide_eq_false e)
 rw[show xA b.cols (b.cols.getD k ByteArray.empty)=xQ (fun y=>decide (y=b.cols.getD k ByteArray.empty)) b.cols 0 from rfl,h2];simp
theorem zMs {b:TableD} {q:QueryD} (h:xK b q=true):xP b=true:=by
 unfold xK at h;simp only[Bool.and_eq_true]at h;exact h.1
theorem zJQ {α:Type} {p:α→Bool} {l:List α} (h:(l.filter p).length≤1) {a c:α} (ha:a∈l) (hc:c∈l) (h1:p a=true) (h2:p c=true):a=c:=by
 have m1:=List.mem_filter.2 ⟨ha,h1⟩;have m2:=List.mem_filter.2 ⟨hc,h2⟩;generalize l.filter p=r at *
 match r,h,m1,m2 with
 | [],_,m1,_=>simp at m1
 | [x],_,m1,m2=>rw[List.mem_singleton]at m1 m2;rw[m1,m2]
 | _::_::_,h,_,_=>simp at h
theorem zCZ {α:Type} [Inhabited α] (p:α→Bool):∀(l:List α) (k:Nat),0≤vJ p l k→∃j,j<l.length∧vJ p l k=((k+j:Nat):Int)∧p (l.getD j default)=true
 | [],_,h=>by simp[vJ]at h
 | x::r,k,h=>by
   unfold vJ at h ⊢;by_cases hd:p x=true
   · exact⟨0,by simp,by rw[if_pos hd];rfl,by simpa using hd⟩
   · rw[if_neg hd]at h ⊢;obtain⟨j,h1,h2,h3⟩:=zCZ p r (k+1) h;exact⟨j+1,by simpa using h1,by rw[h2];congr 1;omega,by simpa using h3⟩
theorem zNp {g:ByteArray} {fs:List NodeD} (ht:uA fs=true) {d:NodeD} (hd:d∈vA g fs):∃j,j<(vA g fs).length∧atI (vA g fs) (d.subs.getD 1 ByteArray.empty)=(j:Int)∧(vA g fs).getD j default=d:=by
 have hk:vM (d.subs.getD 1 ByteArray.empty) d=true:=by unfold vM;simp
 have hx:=zBZ (vM (d.subs.getD 1 ByteArray.empty)) (vA g fs) 0;have h0:0≤vJ (vM (d.subs.getD 1 ByteArray.empty)) (vA g fs) 0:=by have:((vA g fs).any (vM (d.subs.getD 1 ByteArray.empty)))=true:=List.any_eq_true.2 ⟨d,hd,hk⟩;rw[this]at hx;exact of_decide_eq_true hx
 obtain⟨j,h1,h2,h3⟩:=zCZ _ _ 0 h0;exact⟨j,h1,by rw[show atI (vA g fs) (d.subs.getD 1 ByteArray.empty)=vJ (vM (d.subs.getD 1 ByteArray.empty)) (vA g fs) 0 from rfl,h2];simp,zJQ (zDQ ht) (uB _ j h1) hd h3 hk⟩
theorem zKp {cols key val:ByteArray} {cs:List ByteArray} {x:List ByteArray} (h:zJ0 cs key val=some x):x.getD 0 ByteArray.empty=key:=by
 unfold zJ0 at h;split at h
 · simp at h
 · simp only[Option.some.injEq]at h;subst h;rfl
theorem zDO {f:NodeD→Option (List ByteArray)}:∀{l:List NodeD} {rs:List (List ByteArray)},uE f l=some rs→∀r∈rs,∃d∈l,f d=some r
 | [],rs,h=>by simp only[uE,Option.some.injEq]at h;subst h;intro r hr;simp at hr
 | d::t,rs,h=>by
   unfold uE at h;split at h
   · simp at h
   · next x hx =>
     cases hu:uE f t with
     | none=>rw[hu]at h;simp at h
     | some ys =>
       rw[hu]at h;simp only[Option.map_some,Option.some.injEq]at h;subst h;intro r hr;rcases List.mem_cons.1 hr with h3 | h3
       · subst h3;exact⟨d,by simp,hx⟩
       · obtain⟨d',h4,h5⟩:=zDO hu r h3;exact⟨d',List.mem_cons_of_mem _ h4,h5⟩
theorem zKY {cs:List ByteArray} {ns:List NodeD} {r:List ByteArray} (h:r∈(zF0 cs ns).2):∃d∈ns,zCF cs d=some r:=by
 unfold zF0 at h;split at h
 · simp at h
 · cases hu:uE (zCF cs) ns with
   | none=>rw[hu]at h;simp at h
   | some rs=>rw[hu]at h;exact zDO hu r h
theorem zLa {cs:List ByteArray} {g:ByteArray} {fs:List NodeD} (ht:uA fs=true) {r:List ByteArray} (h:r∈(zF0 cs (vA g fs)).2):wG cs (vA g fs) (r.getD 0 ByteArray.empty)=(0,r):=by
 obtain⟨d,hd,hk⟩:=zKY h;unfold zCF at hk;obtain⟨j,h1,h2,h3⟩:=zNp ht hd;unfold wG;rw[zKp (cols:=ByteArray.empty) hk,h2,if_neg (by omega),Int.toNat_natCast,h3,hk];rfl
theorem zX0 {α:Type} [Inhabited α] (l:List α) (k:Nat) (h:k<l.length):l.getD k default∈l:=by
 rw[List.getD_eq_getElem?_getD,List.getElem?_eq_getElem h];simp
end Go.Proofs.YtfpcjhajjejpdaaGreatDoor
namespace Go.Proofs.YtfpcjhajjejpdaaGreatDoor
open Go.RowKit
set_option linter.unusedVariables false
theorem zFf {s:ByteArray} (h:s≠⟨#[]⟩):s.toList.isEmpty=false:=by
 have:=wJ h
 cases hs:s.toList with
 | nil=>rw[hs]at this;simp at this
 | cons=>rfl
theorem zMS (cols:List ByteArray) (key val:ByteArray):vK (xH cols key val)=if 1<cols.length then val else ⟨#[]⟩:=by
 unfold vK xH;split
 · rw[List.drop_succ_cons,List.drop_zero,zLv]
 · rfl
set_option maxRecDepth 100000 in
theorem zCN (b0 b1 b2 b3:Value) (b:TableD) (key val:ByteArray) (w:World) (hb:TableR w w.heap.size b0 b1 b2 b3 b) (hpos:0<b.cols.length) (hn5:b.cols.length≤5) (hk:key.size≤1048576) (hv:val.size≤64) :
 Calls Tryz.prog 106 #[.agg #[b0,b1,b2,b3],.string key,.string val] w (zKO (zJ0 b.cols key val) w):=by
 obtain⟨i0,hi,hz0,hz1,hz2⟩:=info_parts zAO;have HT:=zh (fun W (hW:Below w.heap.size w W)=>hb.later hW);have HRS:=zh (zAf b.cols key val hk hv);have HKC:=zh (fun W=>zLO val W (by omega));have HKR:=zh (fun W (hW:Below w.heap.size w W) r0 (hr:RowR W W.heap.size r0 (xH b.cols key val))=>zLb b0 b1 b2 b3 r0 b (xH b.cols key val) W (hb.later hW) hr (zAf b.cols key val hk hv) hpos);have HPk:=zh (fun W r0 (hr:RowR W W.heap.size r0 (xH b.cols key val))=>zJu r0 (xH b.cols key val) W hr (zAf b.cols key val hk hv) (by unfold xH;simp));have HPV:=zh (zMS b.cols key val);have HU:Hid (zJ0 b.cols key val=(if ((decide (b.cols.length=1)&&decide (val≠⟨#[]⟩))||!vT b.cols (xH b.cols key val))=true then none else some (xH b.cols key val))):=rfl;have HCL:=zh (zCL 94 val);have HCN:=zh (zKK 94 val);obtain⟨rfl,rfl,⟨A2,n2,p2,rfl,s2,k2⟩,⟨A3,n3,p3,rfl,s3,k3⟩⟩:=hb;have hl2:=s2.1;rw[hl2]at HPV;have HRV:Hid (xH b.cols key val=key::(if 1<n2 then zAE 94 val else [])):=by unfold Hid xH;rw[hl2]
 rw[hl2]at hpos hn5;rw[hl2]at HU;clear s2 s3 hl2;generalize zJ0 b.cols key val=U at *;generalize vT b.cols (xH b.cols key val)=rb at *;generalize vK (xH b.cols key val)=PK at *;generalize xH b.cols key val=ROW at *;generalize b.name=nm at *;generalize b.glob=gl at *;generalize zAE 94 val=CS at *;have HB0:=zh (uR w (.cells #[.string nm,.string gl,.slice A2 n2 p2,.slice A3 n3 p3] 29) (.cells #[.slice none 0 0] 40) (.cells #[.string key] 9) (.cells #[.slice (some ⟨w.heap.size+1+1,0,none⟩) 1 1] 40));have HX0:=zh (wZ w (.cells #[.string nm,.string gl,.slice A2 n2 p2,.slice A3 n3 p3] 29) (.cells #[.slice none 0 0] 40) (.cells #[.string key] 9) (.cells #[.slice (some ⟨w.heap.size+1+1,0,none⟩) 1 1] 40));have HX1:=zh (xZ w (.cells #[.string nm,.string gl,.slice A2 n2 p2,.slice A3 n3 p3] 29) (.cells #[.slice none 0 0] 40) (.cells #[.string key] 9) (.cells #[.slice (some ⟨w.heap.size+1+1,0,none⟩) 1 1] 40));have HX2:=zh (yZ w (.cells #[.string nm,.string gl,.slice A2 n2 p2,.slice A3 n3 p3] 29) (.cells #[.slice none 0 0] 40) (.cells #[.string key] 9) (.cells #[.slice (some ⟨w.heap.size+1+1,0,none⟩) 1 1] 40));have HX3:=zh (zZ0 w (.cells #[.string nm,.string gl,.slice A2 n2 p2,.slice A3 n3 p3] 29) (.cells #[.slice none 0 0] 40) (.cells #[.string key] 9) (.cells #[.slice (some ⟨w.heap.size+1+1,0,none⟩) 1 1] 40));go_enter Tryz.func106,Tryz.ntmps106;by_cases h1:n2=1
 · subst h1;have HRV2:Hid (ROW=[key]):=by unfold Hid;rw[HRV.out,if_neg (by omega)]
   clear HRV
   have HSub:Hid (Own.SubO ((((w.alloc (.cells #[.string nm,.string gl,.slice A2 1 p2,.slice A3 n3 p3] 29)).alloc (.cells #[.slice none 0 0] 40)).alloc (.cells #[.string key] 9)).alloc (.cells #[.slice (some ⟨w.heap.size+1+1,0,none⟩) 1 1] 40)) w.heap.size (.slice (some ⟨w.heap.size+1+1,0,none⟩) 1 1) [key]) :=
    Own.sub_of_blk (ss:=[key]) HX2.out (by omega) (by simp[maxLen])
   have HPV1:Hid (PK=⟨#[]⟩):=by unfold Hid;rw[HPV.out,if_neg (by omega)]
   clear HPV;rw[HPV1.out]at HPk;go_wp2_with fail;refine(HKR.out _ HB0.out _ (by obtain⟨A,c,e,hc,hs⟩:=HSub.out.strs;rw[HRV2.out];exact⟨A,_,c,e,hs,hc⟩)).mono ?_;rintro e w1 ⟨rfl,hb1⟩;have HB1:=zh (HB0.out.later hb1);have HY1:=zh (Blk.later HX1.out hb1 (by first | (simp;done) | (simp;omega)));have HY3:=zh (Blk.later HX3.out hb1 (by first | (simp;done) | (simp;omega)));have HS1:Hid (Own.SubO w1 w.heap.size (.slice (some ⟨w.heap.size+1+1,0,none⟩) 1 1) [key]):=Own.own_later HSub.out hb1;have p1:=HY1.out.cell;have f1:=HY1.out.frozen;have z1:=HY1.out.lt;have p3':=HY3.out.cell;have z3:=HY3.out.lt;clear hb1;cases rb
   · have HE2:Hid (U=none):=by unfold Hid;rw[HU.out];simp
     go_wp2_with fail;refine bodyPost_ret (v:=.tuple #[.agg #[.slice none 0 0],.int .i64 14]) (by simp[results,Tryz.results106,go_sem,p1]) rfl ?_;rw[HE2.out];exact⟨_,rfl,Own.sub_nil _ _,HB1.out.setCell (by simp) _⟩
   · go_wp2_with fail;refine(HPk.out _ _ (by obtain⟨A,c,e,hc,hs⟩:=HS1.out.strs;rw[HRV2.out];exact⟨A,_,c,e,hs,hc⟩)).mono ?_;rintro e w2 ⟨rfl,hb2⟩;have HB2:=zh (HB1.out.later hb2);have HS2:=zh (Own.own_later HS1.out hb2);have HZ1:=zh (HY1.out.later hb2 HY1.out.lt);have HZ3:=zh (HY3.out.later hb2 HY3.out.lt);clear p1 f1 z1 p3' z3 hb2;have p1:=HZ1.out.cell;have f1:=HZ1.out.frozen;have z1:=HZ1.out.lt;have p3':=HZ3.out.cell;have z3:=HZ3.out.lt;by_cases hve:val=⟨#[]⟩
     · have HE2:Hid (U=some [key]):=by unfold Hid;rw[HU.out,decide_eq_false (show ¬(val≠⟨#[]⟩) from fun h=>h hve),HRV2.out];simp
       subst hve;go_wp2_with fail;refine bodyPost_ret (v:=.tuple #[.agg #[.slice (some ⟨w.heap.size+1+1,0,none⟩) 1 1],.int .i64 0]) (by simp[results,Tryz.results106,go_sem,p1]) rfl ?_;rw[HE2.out];refine⟨_,rfl,?_,HB2.out.setCell (by simp) _⟩;exact World.ownsRow.kept HS2.out (row:=some (w.heap.size+1)) (Own.grown_set _ _ _ _) (.inr (by simp[Value.ownBlock]))
     · have HE2:Hid (U=none):=by unfold Hid;rw[HU.out,decide_eq_true hve];simp
       have hbe:=zB0 (fun h=>hve h.symm:¬(⟨#[]⟩:ByteArray)=val);have hbn:=yJ (fun h=>hve h.symm:¬(⟨#[]⟩:ByteArray)=val);have hbe2:=zB0 hve;have hbn2:=yJ hve;have hbe3:=wJ hve;have hbe4:=zFf hve;clear hve;go_wp2_with fail;refine bodyPost_ret (v:=.tuple #[.agg #[.slice none 0 0],.int .i64 14]) (by simp[results,Tryz.results106,go_sem,p1]) rfl ?_;rw[HE2.out];exact⟨_,rfl,Own.sub_nil _ _,HB2.out.setCell (by simp) _⟩
 · have hgt:1<n2:=by omega
   have HRV2:Hid (ROW=key::CS):=by unfold Hid;rw[HRV.out,if_pos hgt]
   have HPV1:Hid (PK=val):=by unfold Hid;rw[HPV.out,if_pos hgt]
   rw[HPV1.out]at HPk;clear HPV;have HE:Hid (U=if rb=true then some ROW else none):=by unfold Hid;rw[HU.out,decide_eq_false h1];cases rb <;> simp
   have hg1:(1:Int)<(n2:Int):=by omega
   have hne1:((n2:Int)==1)=false:=by rw[beq_eq_false_iff_ne];omega
   have hne2:(n2==1)=false:=by rw[beq_eq_false_iff_ne];omega
   clear HRV HU h1;have p3':=Blk.cell HX3.out 0;have f3:=Blk.frozen HX3.out 0;have z3:=Blk.lt HX3.out;simp at p3';have hsz0:w.heap.size+1+1+1+1=((((w.alloc (.cells #[.string nm,.string gl,.slice A2 n2 p2,.slice A3 n3 p3] 29)).alloc (.cells #[.slice none 0 0] 40)).alloc (.cells #[.string key] 9)).alloc (.cells #[.slice (some ⟨w.heap.size+1+1,0,none⟩) 1 1] 40)).heap.size:=by simp
   have HRA0:Hid (Own.SubO ((((w.alloc (.cells #[.string nm,.string gl,.slice A2 n2 p2,.slice A3 n3 p3] 29)).alloc (.cells #[.slice none 0 0] 40)).alloc (.cells #[.string key] 9)).alloc (.cells #[.slice (some ⟨w.heap.size+1+1,0,none⟩) 1 1] 40)) w.heap.size (.slice (some ⟨w.heap.size+1+1,0,none⟩) 1 1) [key]) :=
    Own.sub_of_blk (ss:=[key]) HX2.out (by omega) (by simp[maxLen])
   go_wp2_with fail
   go_region_law (first
    | (refine step_append_lies _ (by rfl) _ _ _ (by rfl) w.heap.size 9 i0 _ 1 16 Tryz.underlying27 hi hz0 hz1 hz2 rfl (by omega) (.slice (some ⟨w.heap.size+1+1,0,none⟩) 1 1) 1 [.string key] (by rfl) (by exact HRA.out)
        ⟨gc,0,none⟩ CS.length cc (CS.map Value.string) (by rfl) (by simp) (by exact HCC.out) (by exact zAS CS)
        (by have:=HCN.out;omega) (by unfold maxLen;have:=HCL.out.1;omega) (by have:=HCL.out.1;omega) (by omega) w4.heap.size rfl ?_
       intro gg cap' w5 hown5 hgrow5 hat hlt2;have hbg:=(Blk.later HX3.out HB4.out (by omega)).grown hgrow5 (by simp[Value.ownBlock]);have p5:=hbg.cell;have f5:=hbg.frozen;have z5:=hbg.lt;have HBG:=zh hbg;have HOW:=zh hown5;have HGR:=zh hgrow5
       clear hbg hown5 hgrow5)
    | (go_simp
       go_at_call 164;refine(HKC.out _).mono ?_;rintro e w4 ⟨v',rfl,hsub,hb4⟩;have HB4:=zh (wD hb4);obtain⟨AC,cc,rfl,hcc,hmc,hac⟩:=Own.own_slice hsub;obtain⟨gc,rfl,hgc,hgcb⟩:=hac HCN.out;have HCC:=zh (World.ownsRow.cells (g:=gc) hsub rfl);clear hsub hb4;have q2:=(Blk.later HX3.out HB4.out (by omega)).cell 0;simp at q2;have z6:=(Blk.later HX3.out HB4.out (by omega)).lt;have hsz6:=HB4.out.size
       have HRA:=zh (Own.own_later HRA0.out HB4.out)))
   all_goals
    have hgn:gg≠w.heap.size+1+1+1:=by
     rcases hat with h | h
     · simp[Value.ownBlock]at h;omega
     · omega
    have hgn1:gg≠w.heap.size+1:=by
     rcases hat with h | h
     · simp[Value.ownBlock]at h;omega
     · omega
    have HS5:Hid (Own.SubO (w5.setCell ⟨w.heap.size+1+1+1,0,none⟩ (.slice (some ⟨gg,0,none⟩) (1+CS.length) cap')) w.heap.size (.slice (some ⟨gg,0,none⟩) (1+CS.length) cap') (key::CS)):=by have h:=World.ownsRow.kept HOW.out (row:=some (w.heap.size+1+1+1)) (Own.grown_set w5 (w.heap.size+1+1+1) 0 (.slice (some ⟨gg,0,none⟩) (1+CS.length) cap')) (.inr (by simpa [Value.ownBlock] using hgn));unfold Hid Own.SubO;rw[List.length_cons,Nat.add_comm CS.length 1];exact h
    have HB5:=zh (((HB0.out.later HB4.out).grown HGR.out (by omega) (fun g hg=>by simp[Value.ownBlock]at hg;omega)).setCell (p:=⟨w.heap.size+1+1+1,0,none⟩) (by simp;omega) (.slice (some ⟨gg,0,none⟩) (1+CS.length) cap'));have HZ0:=zh (((Blk.later HX0.out HB4.out (by omega)).grown HGR.out (by simp[Value.ownBlock];omega)).far (p:=⟨w.heap.size+1+1+1,0,none⟩) (by simp;omega) (.slice (some ⟨gg,0,none⟩) (1+CS.length) cap'));have HZ1:=zh (((Blk.later HX1.out HB4.out (by omega)).grown HGR.out (by simp[Value.ownBlock])).far (p:=⟨w.heap.size+1+1+1,0,none⟩) (by simp) (.slice (some ⟨gg,0,none⟩) (1+CS.length) cap'));have HZ3:=zh (HBG.out.set_ 0 (.slice (some ⟨gg,0,none⟩) (1+CS.length) cap'));have y0:=HZ0.out.cell 0;have y1:=HZ0.out.cell 1;have y2:=HZ0.out.cell 2;have y3:=HZ0.out.cell 3;have y4:=HZ3.out.cell 0;simp at y0 y1 y2 y3 y4;obtain⟨W5,hW5⟩:∃W5,W5=w5.setCell ⟨w.heap.size+1+1+1,0,none⟩ (.slice (some ⟨gg,0,none⟩) (1+CS.length) cap'):=⟨_,rfl⟩;rw[←hW5]at HS5 HB5 HZ0 HZ1 HZ3 y0 y1 y2 y3 y4 ⊢;clear hW5 p3' f3 z3 p5 f5 z5 q2 z6 HBG HOW HGR;go_wp2_with fail;refine(HKR.out _ HB5.out _ (by obtain⟨A,c,e,hc,hs⟩:=HS5.out.strs;rw[HRV2.out];exact⟨A,_,c,e,hs,hc⟩)).mono ?_;rintro e w6 ⟨rfl,hb6⟩;have HB6:=zh (HB5.out.later hb6);have HY1:=zh (HZ1.out.later hb6 HZ1.out.lt);have HY3:=zh (HZ3.out.later hb6 HZ3.out.lt);have HS6:Hid (Own.SubO w6 w.heap.size (.slice (some ⟨gg,0,none⟩) (1+CS.length) cap') (key::CS)):=Own.own_later HS5.out hb6;have p1:=HY1.out.cell;have f1:=HY1.out.frozen;have z1:=HY1.out.lt;have p3':=HY3.out.cell 0;have z3:=HY3.out.lt;simp at p3';clear hb6 y0 y1 y2 y3 y4;cases rb
    · have HE2:Hid (U=none):=by unfold Hid;rw[HE.out];rfl
      go_wp2_with fail;refine bodyPost_ret (v:=.tuple #[.agg #[.slice none 0 0],.int .i64 14]) (by simp[results,Tryz.results106,go_sem,p1]) rfl ?_;rw[HE2.out];exact⟨_,rfl,Own.sub_nil _ _,HB6.out.setCell (by simp) _⟩
    · go_wp2_with fail;refine(HPk.out _ _ (by obtain⟨A,c,e,hc,hs⟩:=HS6.out.strs;rw[HRV2.out];exact⟨A,_,c,e,hs,hc⟩)).mono ?_;rintro e w7 ⟨rfl,hb7⟩;have HB7:=zh (HB6.out.later hb7);have HS7:=zh (Own.own_later HS6.out hb7);have HV1:=zh (HY1.out.later hb7 HY1.out.lt);have HV3:=zh (HY3.out.later hb7 HY3.out.lt);clear p1 f1 z1 p3' z3 hb7;have p1:=HV1.out.cell;have f1:=HV1.out.frozen;have z1:=HV1.out.lt;have p3':=HV3.out.cell 0;have z3:=HV3.out.lt;simp at p3';have HE2:Hid (U=some (key::CS)):=by unfold Hid;rw[HE.out,HRV2.out];rfl
      go_wp2_with fail;refine bodyPost_ret (v:=.tuple #[.agg #[(.slice (some ⟨gg,0,none⟩) (1+CS.length) cap')],.int .i64 0]) (by simp[results,Tryz.results106,go_sem,p1]) rfl ?_;rw[HE2.out];refine⟨_,rfl,?_,HB7.out.setCell (by simp) _⟩;exact World.ownsRow.kept HS7.out (row:=some (w.heap.size+1)) (Own.grown_set _ _ _ _) (.inr (by simpa [Value.ownBlock] using hgn1))
end Go.Proofs.YtfpcjhajjejpdaaGreatDoor
namespace Go.Proofs.YtfpcjhajjejpdaaGreatDoor
open Go.RowKit
set_option linter.unusedVariables false
theorem zJv {cols r:List ByteArray} (h:vT cols r=true) (hc:cols.length≤5):(vK r).size≤64:=by
 unfold vT at h;simp only[Bool.and_eq_true,decide_eq_true_eq,List.all_eq_true]at h;obtain⟨hl,hk,hcell⟩:=h
 have hj:∀(l:List (List UInt8)),(∀x∈l,x.length≤11)→(Lib.join l [94]).length≤12*l.length:=by
  intro l
  induction l with
  | nil=>intro _;simp[Lib.join,List.intercalate]
  | cons x t ih =>
    intro hx
    match t,ih with
    | [],_=>rw[zBd];have:=hx x (by simp);simp;omega
    | y::t,ih=>rw[vU];have h1:=hx x (by simp);have h2:=ih (fun z hz=>hx z (List.mem_cons_of_mem _ hz));simp only[List.length_append,List.length_cons,List.length_nil]at h2 ⊢;omega
 have h1:=hj ((r.drop 1).map (·.data.toList)) (fun x hx=>by
  obtain⟨s,hs,rfl⟩:=List.mem_map.1 hx;have:=hcell s (List.mem_of_mem_drop hs);unfold uL at this;rw[Bool.and_eq_true]at this;have h3:=of_decide_eq_true this.2
  simpa using h3)
 rw[List.length_map,List.length_drop]at h1;unfold vK;show(Lib.join ((r.drop 1).map (·.data.toList)) [94]).toArray.size≤64;rw[List.size_toArray];omega
theorem zN0 {b:TableD} (h:xP b=true):xB b.glob=true∧1≤b.cols.length∧b.cols.length≤5∧b.idx.length<b.cols.length∧∀c∈b.idx,0<xA b.cols c:=by
 unfold xP at h;simp only[Bool.and_eq_true,decide_eq_true_eq]at h;obtain⟨_,h1,h2,h3,h4,_,h5⟩:=h;refine⟨h1,h2,h3,h4,?_⟩
 have:∀(l:List ByteArray) (k:Int),0≤k→zAK b.cols l k=true→∀c∈l,0<xA b.cols c:=by
  intro l
  induction l with
  | nil=>intro _ _ _ c hc;simp at hc
  | cons x t ih =>
    intro k hk hx c hc;unfold zAK at hx;rw[Bool.and_eq_true,decide_eq_true_eq]at hx;rcases List.mem_cons.1 hc with rfl | h6
    · omega
    · exact ih _ (by omega) hx.2 c h6
 exact this b.idx 0 (by omega) h5
theorem zIK {s:ByteArray} (h:uL s=true) (hne:s≠⟨#[]⟩):zAc s=true:=by
 unfold uL at h;rw[Bool.and_eq_true]at h;have h2:=of_decide_eq_true h.2;unfold zAc;rw[Bool.and_eq_true];refine⟨decide_eq_true ?_,decide_eq_true (by omega)⟩;rcases Nat.eq_zero_or_pos s.size with h0 | h0
 · exfalso;apply hne
   cases s with | mk d =>
   congr
   exact Array.eq_empty_of_size_eq_zero h0
 · exact h0
theorem zHL {cols r:List ByteArray} (h:vT cols r=true) (k:Nat):uL (r.getD k ByteArray.empty)=true:=by
 unfold vT at h;simp only[Bool.and_eq_true,decide_eq_true_eq,List.all_eq_true]at h;by_cases hk:k<r.length
 · exact h.2.2 _ (uD r k hk)
 · rw[List.getD_eq_getElem?_getD,List.getElem?_eq_none (by omega)];decide
theorem zKv {cols r:List ByteArray} (h:vT cols r=true):zAc (r.getD 0 ByteArray.empty)=true:=by
 have h2:=h;unfold vT at h2;simp only[Bool.and_eq_true,decide_eq_true_eq]at h2;exact zIK (zHL h 0) h2.2.1
theorem zMk {s:ByteArray} (h:xB s=true):zAc s=true:=by
 unfold xB at h;rw[Bool.and_eq_true,decide_eq_true_eq]at h;unfold zAc;rw[Bool.and_eq_true];refine⟨decide_eq_true ?_,decide_eq_true (by omega)⟩;rcases Nat.eq_zero_or_pos s.size with h0 | h0
 · exfalso;have:s.data.toList=[]:=List.eq_nil_of_length_eq_zero (by simpa using h0);rw[this]at h;cases h.2
 · exact h0
theorem zMx {b:TableD} (h:xP b=true) {c:ByteArray} (hc:0≤xA b.cols c):xB c=true:=by
 obtain⟨j,h1,_,h3⟩:=zDx hc;rw[←h3];exact(zHD h j h1).1
theorem zNb {b:TableD} {r:List ByteArray} (kind:Int) (hk:kind=1∨kind=2) (h:xP b=true) (hr:vT b.cols r=true):∀c∈zBG kind b r,vS c=true∧c.kind=kind∧c.name=b.glob∧c.subs.getD 0 ByteArray.empty=iS∧c.subs.length=4:=by
 obtain⟨t1,t2,t3,t4,t5⟩:=zN0 h;intro c hc;unfold zBG at hc;rw[List.mem_flatMap]at hc;obtain⟨x,hx,hc⟩:=hc;unfold zAA at hc;split at hc
 · simp at hc
 · next hne =>
   rw[List.mem_singleton]at hc;subst hc;refine⟨?_,rfl,rfl,rfl,rfl⟩;have h2:=t5 x hx;have h3:wT [iS,x,cellAt b.cols r x,r.getD 0 ByteArray.empty]=true:=by unfold wT;simp only[List.all_cons,List.all_nil,Bool.and_true];rw[zMk (zMx h (c:=x) (by omega)),zIK (s:=cellAt b.cols r x) (zHL hr _) hne,zKv hr];rfl
   unfold vS zI0;rw[t1,h3];rcases hk with rfl | rfl
   · simp;decide
   · simp
theorem zMN {b:TableD} {r:List ByteArray} (h:xP b=true) (hr:vT b.cols r=true):vS (zEl b.glob r)=true:=by
 obtain⟨t1,t2,t3,t4,t5⟩:=zN0 h;have h3:wT [rS,r.getD 0 ByteArray.empty]=true:=by unfold wT;simp only[List.all_cons,List.all_nil,Bool.and_true];rw[zKv hr];rfl
 unfold vS zI0 zEl;simp only[];rw[t1,h3,decide_eq_true (zJv hr t3)];rfl
theorem zMq {b:TableD} {r:List ByteArray} (kind:Int):(zBG kind b r).length≤b.idx.length:=by
 unfold zBG;generalize b.idx=l
 induction l with
 | nil=>simp
 | cons x t ih =>
   rw[List.flatMap_cons,List.length_append,List.length_cons];have:(zAA kind b.glob b.cols r x).length≤1:=by unfold zAA;split <;> simp
   omega
end Go.Proofs.YtfpcjhajjejpdaaGreatDoor
