import Derived.Test.YtfpcjhajjejpdaaGreatDoorZ29
import Derived.Deep.RegionHeld3
import Derived.Deep.AppendLies
set_option maxHeartbeats 4000000
open Go.Lib renaming hid → zh
namespace Go.Proofs.YtfpcjhajjejpdaaGreatDoor
open Go.RowKit
set_option linter.unusedVariables false
theorem zFo:∀(gs:List ChgD) (us:List Value),(∀u∈us,u.oneCell'=true)→∀x∈Own.flat zCj gs us,x.oneCell'=true
 | [],_,_,x,hx=>by simp[Own.flat]at hx
 | _::_,[],_,x,hx=>by simp[Own.flat]at hx
 | d::gs,u::us,h,x,hx=>by
   simp only[Own.flat,List.mem_append]at hx;rcases hx with hx | hx
   · have hu:=h u (by simp);simp only[zCj,List.mem_cons,List.not_mem_nil,or_false]at hx;rcases hx with rfl | rfl | rfl | rfl
     · rfl
     · rfl
     · exact hu
     · rfl
   · exact zFo gs us (fun y hy=>h y (List.mem_cons_of_mem _ hy)) x hx
theorem zKz {w:World} {base t:Nat} {v:Value} {gs:List ChgD} {us:List Value} (h:Own.OwnL zCj w base t v gs us):∀x∈Own.flat zCj gs us,x.oneCell'=true :=
 zFo gs us fun u hu=>by obtain⟨j,hj,rfl⟩:=Own.mem_getD hu;obtain⟨A,cap,e,_⟩:=Own.own_slice (h.subs j (by rw[←h.len];exact hj));rw[e];rfl
theorem zJR {w0 w4 w5:World} {base:Nat} {v v4 v5:Value} {fs gs:List ChgD} {vs us:List Value} (h:Own.OwnL zCj w0 base 88 v fs vs) (hw:base≤w0.heap.size) (hb:Below w0.heap.size w0 w4) (k:Own.OwnL zCj w4 w0.heap.size 88 v4 gs us)
 (hrow:w5.ownsRow base 88 4 v5 (fs.length+gs.length) (Own.flat zCj fs vs++Own.flat zCj gs us)) (hg:w4.grownBy w5 v.ownBlock):ChgsO w5 base v5 (fs++gs) :=
 ⟨vs++us,OwnL.app (h.later hb) (k.base hw) (fun a ha c hc=>by
   obtain⟨j,hj,rfl⟩:=Own.mem_getD hc
   exact h.fresh (k.subs j (by rw[←k.len];exact hj)) (Nat.le_refl _) a ha) hrow hg (by decide)⟩
set_option maxRecDepth 100000 in
theorem zFI (b0 b1 b2 b3 r0:Value) (b:TableD) (r:List ByteArray) (col:ByteArray) (kind:Int) (w:World) (hb:TableR w w.heap.size b0 b1 b2 b3 b) (h:RowR w w.heap.size r0 r) (hcl:b.cols.length≤1048576) (hpl:0≤xA b.cols col) (hlt:(xA b.cols col).toNat<r.length) :
 Calls Tryz.prog 60 #[.agg #[b0,b1,b2,b3],.agg #[r0],.string col,.int .i64 kind] w (zEG (zDt kind b.glob b.cols r col) w):=by
 obtain⟨k,hk⟩:∃k:Nat,xA b.cols col=(k:Int):=⟨(xA b.cols col).toNat,by omega⟩;obtain⟨rfl,rfl,⟨A2,n2,p2,rfl,s2,k2⟩,⟨A3,n3,p3,rfl,s3,k3⟩⟩:=hb;obtain⟨A,n,c,rfl,hs,hnc⟩:=h;rw[hs.1,hk,Int.toNat_natCast]at hlt;obtain⟨rb,ro,rfl,hrb,hrc⟩:=hs.2 (by omega);have hc0:=hrc 0 (by omega);have hck:=hrc k hlt;rw[Nat.add_zero]at hc0;have HKP:=zh (fun W (hW:Below w.heap.size w W)=>((uF A2 n2 p2 b.cols col W (s2.later hW) (by rw[←s2.1];exact hcl)).mono (R':=fun e w'=>e=.returned (.int .i64 (k:Nat))∧Below W.heap.size W w') (fun e w' ⟨h1,h2⟩=>⟨by rw[h1,hk],h2 ▸ Below.refl _ _⟩)));have HR:Hid (zDt kind b.glob b.cols r col=if r.getD k ByteArray.empty=⟨#[]⟩ then [] else [⟨kind,b.glob,[iS,col,r.getD k ByteArray.empty,r.getD 0 ByteArray.empty],⟨#[]⟩⟩]):=by unfold Hid zDt cellAt;rw[hk];rfl
 clear s2 s3 hs hrc hk hcl hpl;generalize zDt kind b.glob b.cols r col=R at *;generalize r.getD k ByteArray.empty=v at *;generalize r.getD 0 ByteArray.empty=key at *;generalize b.name=nm at *;generalize b.glob=gl at *;have hk1:(k:Int)<(n:Int):=by omega
 have hn1:0<n:=by omega
 obtain⟨WB,hWB⟩:∃WB,WB=(w.alloc (.cells #[.string nm,.string gl,.slice A2 n2 p2,.slice A3 n3 p3] 29)).alloc (.cells #[.slice (some ⟨rb,ro,none⟩) n c] 40):=⟨_,rfl⟩;have HX0:Hid (Blk WB w.heap.size 29 #[.string nm,.string gl,.slice A2 n2 p2,.slice A3 n3 p3]):=by subst hWB;exact zC0 _ _ _
 have HX1:Hid (Blk WB (w.heap.size+1) 40 #[.slice (some ⟨rb,ro,none⟩) n c]):=by subst hWB;exact uB _ _ _
 have HBB:Hid (Below w.heap.size w WB):=by subst hWB;exact(Below.new _ _).later (Below.new _ _)
 have HS1:Hid (∀W',Below WB.heap.size WB W'→(W'.cell? ⟨w.heap.size,1,none⟩=some (.string gl)∧W'.cell? ⟨w.heap.size,2,none⟩=some (.slice A2 n2 p2)∧W'.cell? ⟨w.heap.size+1,0,none⟩=some (.slice (some ⟨rb,ro,none⟩) n c)∧W'.cell? ⟨rb,ro+k,none⟩=some (.string v)∧W'.cell? ⟨rb,ro,none⟩=some (.string key))):=fun W' hW=>⟨(HX0.out.later hW HX0.out.lt).at 1 rfl,(HX0.out.later hW HX0.out.lt).at 2 rfl,(HX1.out.later hW HX1.out.lt).at 0 rfl,((HBB.out.later hW).cell (p:=⟨rb,ro+k,none⟩) hrb).trans hck,((HBB.out.later hW).cell (p:=⟨rb,ro,none⟩) hrb).trans hc0⟩;have hwz:=HBB.out.size;go_enter Tryz.func60,Tryz.ntmps60;go_wp2_with fail;rw[←hWB];clear hWB
 go_region_held3 (fun W'=>W'.cell? ⟨w.heap.size,1,none⟩=some (.string gl)∧W'.cell? ⟨w.heap.size,2,none⟩=some (.slice A2 n2 p2)∧W'.cell? ⟨w.heap.size+1,0,none⟩=some (.slice (some ⟨rb,ro,none⟩) n c)∧W'.cell? ⟨rb,ro+k,none⟩=some (.string v)∧W'.cell? ⟨rb,ro,none⟩=some (.string key))
  (first | exact HS1.out _ hb1 | exact HS1.out _ (Below.refl _ _).drew)
  ((go_at_call 90;refine(HKP.out _ (by exact HBB.out.drew)).mono ?_;rintro e w1 ⟨rfl,hb1'⟩;have hb1:=xC hb1';clear hb1'))
 have HB1:=zh (HBB.out.later hb1);obtain⟨x0,x1,x2,x3,x4⟩:=HS1.out _ hb1;have z1:=hb1.size;have zw:w.heap.size<w1.heap.size:=by have:=HX0.out.lt;omega
 have zw1:w.heap.size+1<w1.heap.size:=by have:=HX1.out.lt;omega
 have zr:rb<w1.heap.size:=by omega
 clear hb1;by_cases hv:v=⟨#[]⟩
 · have HE:Hid (R=[]):=by unfold Hid;rw[HR.out,if_pos hv]
   subst hv;go_wp2_with fail;go_ret;exact⟨_,rfl,by rw[HE.out];exact uY _ _ HB1.out.size,HB1.out.later (Below.new _ _)⟩
 · have HE:Hid (R=[⟨kind,gl,[iS,col,v,key],⟨#[]⟩⟩]):=by unfold Hid;rw[HR.out,if_neg hv]
   have hbe:=uC hv;have hbe3:=zBZ (l:=[]) hv;have HCO:=zh (zHm (d:=⟨kind,gl,[iS,col,v,key],⟨#[]⟩⟩) (zIK (w:=w1) (base:=w.heap.size) [iS,col,v,key] #[.string ⟨#[105]⟩,.string col,.string v,.string key] HB1.out.size (by simp) rfl) (by have:=HB1.out.size;simp;omega));clear hv;go_wp2_with fail;first | go_region | skip
   go_wp2_with fail;go_ret;refine⟨.slice (some ⟨w1.heap.size+1,0,none⟩) 1 1,rfl,?_,((HB1.out.later (Below.new _ _)).later (Below.new _ _)).drew⟩;rw[HE.out];have h:=HCO.out;simp only[World.size_alloc]at h;exact ChgsO.later ⟨_,h⟩ (Below.refl _ _).drew
theorem zFL (F:ByteArray→List ChgD) (l:List ByteArray) (k:Nat) (h:k<l.length):(l.take (k+1)).flatMap F=(l.take k).flatMap F++F (l.getD k ByteArray.empty):=by
 rw[List.take_succ_eq_append_getElem h,List.flatMap_append,List.getD_eq_getElem?_getD,List.getElem?_eq_getElem h];simp
theorem zDj (F:ByteArray→List ChgD) (hF:∀c,(F c).length≤1):∀(l:List ByteArray),(l.flatMap F).length≤l.length
 | []=>by simp
 | x::t=>by have h1:=hF x;have h2:=zDj F hF t;rw[List.flatMap_cons,List.length_append,List.length_cons];omega
set_option maxRecDepth 100000 in
theorem zEN (b0 b1 b2 b3 r0:Value) (b:TableD) (r:List ByteArray) (w:World) (hb:TableR w w.heap.size b0 b1 b2 b3 b) (h:RowR w w.heap.size r0 r) (hsm:yH r) (hpos:0<r.length) (hcl:b.cols.length≤1048576) (hil:b.idx.length≤1000000) (hpl:∀c∈b.idx,0≤xA b.cols c∧(xA b.cols c).toNat<r.length) :
 Calls Tryz.prog 81 #[.agg #[b0,b1,b2,b3],.agg #[r0]] w (zEG (zDr b.glob r::zAP 1 b r) w):=by
 obtain⟨i0,hi0,hz0,hz1,hz2⟩:=info_parts zKE;have HKS:=zh (fun W (hW:Below w.heap.size w W)=>zIf b0 b1 b2 b3 r0 b r W (hb.later hW) (h.later hW) hsm hpos);have HKI:=zh (fun c (hc:c∈b.idx) W (hW:Below w.heap.size w W)=>zFI b0 b1 b2 b3 r0 b r c 1 W (hb.later hW) (h.later hW) hcl (hpl c hc).1 (hpl c hc).2);have HFL:=zh (zKG 1 b.glob b.cols r);have HR:Hid (zAP 1 b r=b.idx.flatMap (zDt 1 b.glob b.cols r)):=rfl;obtain⟨rfl,rfl,⟨A2,n2,p2,rfl,s2,k2⟩,⟨A3,n3,p3,rfl,s3,k3⟩⟩:=hb;obtain⟨A,n,c,rfl,hs,hnc⟩:=h;have HSX:=zh s3;have HLI:=zh s3.1;have hn3:n3≤1000000:=by rw[←s3.1];exact hil
 clear s2 s3 hs hsm hpos hcl hil hpl;generalize zAP 1 b r=IX at *;generalize zDt 1 b.glob b.cols r=F at *;generalize zDr b.glob r=D at *;generalize b.idx=ids at *;generalize b.name=nm at *;generalize b.glob=gl at *;obtain⟨WB,hWB⟩:∃WB,WB=(w.alloc (.cells #[.string nm,.string gl,.slice A2 n2 p2,.slice A3 n3 p3] 29)).alloc (.cells #[.slice A n c] 40):=⟨_,rfl⟩;have HX0:Hid (Blk WB w.heap.size 29 #[.string nm,.string gl,.slice A2 n2 p2,.slice A3 n3 p3]):=by subst hWB;exact zC0 _ _ _
 have HX1:Hid (Blk WB (w.heap.size+1) 40 #[.slice A n c]):=by subst hWB;exact uB _ _ _
 have HBB:Hid (Below w.heap.size w WB):=by subst hWB;exact(Below.new _ _).later (Below.new _ _)
 have HS1:Hid (∀W',Below WB.heap.size WB W'→(W'.cell? ⟨w.heap.size,0,none⟩=some (.string nm)∧W'.cell? ⟨w.heap.size,1,none⟩=some (.string gl)∧W'.cell? ⟨w.heap.size,2,none⟩=some (.slice A2 n2 p2)∧W'.cell? ⟨w.heap.size,3,none⟩=some (.slice A3 n3 p3)∧W'.cell? ⟨w.heap.size+1,0,none⟩=some (.slice A n c))):=fun W' hW=>⟨(HX0.out.later hW HX0.out.lt).at 0 rfl,(HX0.out.later hW HX0.out.lt).at 1 rfl,(HX0.out.later hW HX0.out.lt).at 2 rfl,(HX0.out.later hW HX0.out.lt).at 3 rfl,(HX1.out.later hW HX1.out.lt).at 0 rfl⟩;obtain⟨y0,y1,y2,y3,y4⟩:=HS1.out _ (Below.refl _ _);have hwz:=HBB.out.size;have zw0:=HX0.out.lt;have zw1:=HX1.out.lt;go_enter Tryz.func81,Tryz.ntmps81;go_wp2_with fail;rw[←hWB];clear hWB;first | (refine(HKS.out _ HBB.out).mono ?_) | (go_wp2_with fail;refine(HKS.out _ HBB.out).mono ?_)
 rintro e w1 ⟨v1,rfl,hsub1,hb1⟩;obtain⟨A1,cap1,rfl,_,_,_⟩:=Own.own_slice hsub1;have HB1:=zh hb1;have HO1:=zh (zHm hsub1 hb1.size);have hz1':=hb1.size;clear hb1 hsub1 y0 y1 y2 y3 y4 HKS;go_wp2_with fail;go_loopw [5,6] (fun v i wr=>∃(k:Nat),k≤n3∧i=.int .i64 k∧ChgsO wr WB.heap.size v (D::(ids.take k).flatMap F)∧Below WB.heap.size WB wr) (fun _ i _=>n3-(intOf i).toNat);case atStart=>exact⟨0,Nat.zero_le _,rfl,⟨_,HO1.out⟩,HB1.out.later (Below.new _ _)⟩
 case round =>
  obtain⟨k,hk,rfl,⟨vs,hown⟩,hb⟩:=hrel;have HB:=zh hb;have HO:=zh hown;obtain⟨x0,x1,x2,x3,x4⟩:=HS1.out _ hb;have HBw:=zh (HBB.out.later hb);have hwr:=hb.size;clear hb hown HO1 HB1;by_cases hlt:k<n3
  · obtain⟨ib,io,rfl,hib,hic⟩:=(HSX.out.later HBw.out).2 (by omega);have hik:=hic k hlt;have hl:k<ids.length:=by rw[HLI.out];exact hlt
    have HKc:=zh (HKI.out _ (xE ids k hl));have HST:=zh (zFL F ids k hl);have HF1:=zh (HFL.out (ids.getD k ByteArray.empty));have HTL:Hid ((D::(ids.take k).flatMap F).length≤1000001):=by unfold Hid;have h1:=zDj F HFL.out (ids.take k);rw[List.length_take]at h1;rw[List.length_cons];omega
    clear hic hl;generalize ids.getD k ByteArray.empty=col at *;generalize hg:F col=gs at *;clear hg;generalize hfs:D::(ids.take k).flatMap F=fs at *;have HFS:=zh hfs;clear hfs;have hN:=HTL.out;generalize hNN:fs.length=N at *;have HN:=zh hNN;clear hNN;have hM:=HF1.out;go_wp2_with fail
    go_region_law (first
     | (refine zDp _ (by rfl) _ _ _ (by rfl) WB.heap.size 88 i0 _ 4 64 Tryz.underlying61 hi0 hz0 hz1 hz2 rfl (by omega) u5 N (Own.flat zCj fs vs) (by rfl) (by exact HRA.out)
         w4.heap.size A4 gs.length cap4 (Own.flat zCj gs us) (by rfl) (by exact HRD.out) (by exact HONE.out)
         (by unfold maxLen;omega) (by omega) (by omega) ?_
        intro v5 w5 hown5 hgrow5 _;have HOW:=zh hown5;have HGR:=zh hgrow5
        clear hown5 hgrow5)
     | (go_simp
        go_at_call 60;refine(HKc.out _ (by exact HBw.out.drew)).mono ?_;rintro e w4 ⟨v4,rfl,⟨us,hown4⟩,hb4'⟩;have hb4:=xC hb4';obtain⟨A4,cap4,rfl,hcap4,_,_⟩:=Own.own_slice hown4.row;have HB4:=zh hb4;have hw4:=hb4.size;have HO4:Hid (Own.OwnL zCj w4 wr.heap.size 88 (.slice A4 gs.length cap4) gs us):=hown4;have HRD:=zh (Reads.of_own hown4.row);have HONE:=zh (zKz hown4);have HRA:Hid (w4.ownsRow WB.heap.size 88 4 u5 N (Own.flat zCj fs vs)):=by have h:=(HO.out.later hb4).row;rw[HN.out]at h;exact h
        clear hb4 hb4' hown4))
    all_goals
     have HC5:Hid (ChgsO w5 WB.heap.size v5 (D::(ids.take (k+1)).flatMap F)):=by unfold Hid;rw[HST.out,←List.cons_append,HFS.out];exact zJR HO.out hwr HB4.out HO4.out (by rw[HN.out];exact HOW.out) HGR.out
     have HB5:Hid (Below WB.heap.size WB w5):=(HB.out.later HB4.out).grown HGR.out (by omega) (fun g hg=>(World.ownsRow.lt HRA.out g hg).1);clear x0 x1 x2 x3 x4;go_wp2_with fail;go_roundw;case rel=>exact⟨k+1,by omega,by go_num,HC5.out,HB5.out⟩
     case measure=>simp[intOf];omega
  · have HE:Hid (D::(ids.take k).flatMap F=D::IX):=by unfold Hid;rw[List.take_of_length_le (by rw[HLI.out];omega),HR.out]
    have HCE:Hid (ChgsO wr w.heap.size u5 (D::IX)):=by unfold Hid;rw[←HE.out];exact ChgsO.base ⟨vs,HO.out⟩ hwz
    go_wp2_with fail;go_ret;exact⟨_,rfl,HCE.out,HBw.out⟩
end Go.Proofs.YtfpcjhajjejpdaaGreatDoor
namespace Go.Proofs.YtfpcjhajjejpdaaGreatDoor
open Go.RowKit
set_option linter.unusedVariables false
theorem zEb {s:ByteArray} (h:s≠⟨#[]⟩):s.toList.isEmpty=false:=by
 have:=uN h
 cases hs:s.toList with
 | nil=>rw[hs]at this;simp at this
 | cons=>rfl
theorem zLd (cols:List ByteArray) (key val:ByteArray):wH (yG cols key val)=if 1<cols.length then val else ⟨#[]⟩:=by
 unfold wH yG;split
 · rw[List.drop_succ_cons,List.drop_zero,zJM]
 · rfl
set_option maxRecDepth 100000 in
theorem zBP (b0 b1 b2 b3:Value) (b:TableD) (key val:ByteArray) (w:World) (hb:TableR w w.heap.size b0 b1 b2 b3 b) (hpos:0<b.cols.length) (hn5:b.cols.length≤5) (hk:key.size≤1048576) (hv:val.size≤64) :
 Calls Tryz.prog 106 #[.agg #[b0,b1,b2,b3],.string key,.string val] w (zJf (uH b.cols key val) w):=by
 obtain⟨i0,hi,hz0,hz1,hz2⟩:=info_parts zAu;have HT:=zh (fun W (hW:Below w.heap.size w W)=>hb.later hW);have HRS:=zh (yW b.cols key val hk hv);have HKC:=zh (fun W=>zKe val W (by omega));have HKR:=zh (fun W (hW:Below w.heap.size w W) r0 (hr:RowR W W.heap.size r0 (yG b.cols key val))=>zJs b0 b1 b2 b3 r0 b (yG b.cols key val) W (hb.later hW) hr (yW b.cols key val hk hv) hpos);have HPk:=zh (fun W r0 (hr:RowR W W.heap.size r0 (yG b.cols key val))=>zHU r0 (yG b.cols key val) W hr (yW b.cols key val hk hv) (by unfold yG;simp));have HPV:=zh (zLd b.cols key val);have HU:Hid (uH b.cols key val=(if ((decide (b.cols.length=1)&&decide (val≠⟨#[]⟩))||!vQ b.cols (yG b.cols key val))=true then none else some (yG b.cols key val))):=rfl;have HCL:=zh (zBN 94 val);have HCN:=zh (zJb 94 val);obtain⟨rfl,rfl,⟨A2,n2,p2,rfl,s2,k2⟩,⟨A3,n3,p3,rfl,s3,k3⟩⟩:=hb;have hl2:=s2.1;rw[hl2]at HPV;have HRV:Hid (yG b.cols key val=key::(if 1<n2 then uZ 94 val else [])):=by unfold Hid yG;rw[hl2]
 rw[hl2]at hpos hn5;rw[hl2]at HU;clear s2 s3 hl2;generalize uH b.cols key val=U at *;generalize vQ b.cols (yG b.cols key val)=rb at *;generalize wH (yG b.cols key val)=PK at *;generalize yG b.cols key val=ROW at *;generalize b.name=nm at *;generalize b.glob=gl at *;generalize uZ 94 val=CS at *;have HB0:=zh (zBO w (.cells #[.string nm,.string gl,.slice A2 n2 p2,.slice A3 n3 p3] 29) (.cells #[.slice none 0 0] 40) (.cells #[.string key] 9) (.cells #[.slice (some ⟨w.heap.size+1+1,0,none⟩) 1 1] 40));have HX0:=zh (zCK w (.cells #[.string nm,.string gl,.slice A2 n2 p2,.slice A3 n3 p3] 29) (.cells #[.slice none 0 0] 40) (.cells #[.string key] 9) (.cells #[.slice (some ⟨w.heap.size+1+1,0,none⟩) 1 1] 40));have HX1:=zh (zCJ w (.cells #[.string nm,.string gl,.slice A2 n2 p2,.slice A3 n3 p3] 29) (.cells #[.slice none 0 0] 40) (.cells #[.string key] 9) (.cells #[.slice (some ⟨w.heap.size+1+1,0,none⟩) 1 1] 40));have HX2:=zh (zCI w (.cells #[.string nm,.string gl,.slice A2 n2 p2,.slice A3 n3 p3] 29) (.cells #[.slice none 0 0] 40) (.cells #[.string key] 9) (.cells #[.slice (some ⟨w.heap.size+1+1,0,none⟩) 1 1] 40));have HX3:=zh (zCH w (.cells #[.string nm,.string gl,.slice A2 n2 p2,.slice A3 n3 p3] 29) (.cells #[.slice none 0 0] 40) (.cells #[.string key] 9) (.cells #[.slice (some ⟨w.heap.size+1+1,0,none⟩) 1 1] 40));go_enter Tryz.func106,Tryz.ntmps106;by_cases h1:n2=1
 · subst h1;have HRV2:Hid (ROW=[key]):=by unfold Hid;rw[HRV.out,if_neg (by omega)]
   clear HRV
   have HSub:Hid (Own.SubO ((((w.alloc (.cells #[.string nm,.string gl,.slice A2 1 p2,.slice A3 n3 p3] 29)).alloc (.cells #[.slice none 0 0] 40)).alloc (.cells #[.string key] 9)).alloc (.cells #[.slice (some ⟨w.heap.size+1+1,0,none⟩) 1 1] 40)) w.heap.size (.slice (some ⟨w.heap.size+1+1,0,none⟩) 1 1) [key]) :=
    Own.sub_of_blk (ss:=[key]) HX2.out (by omega) (by simp[maxLen])
   have HPV1:Hid (PK=⟨#[]⟩):=by unfold Hid;rw[HPV.out,if_neg (by omega)]
   clear HPV;rw[HPV1.out]at HPk;go_wp2_with fail;refine(HKR.out _ HB0.out _ (by obtain⟨A,c,e,hc,hs⟩:=HSub.out.strs;rw[HRV2.out];exact⟨A,_,c,e,hs,hc⟩)).mono ?_;rintro e w1 ⟨rfl,hb1⟩;have HB1:=zh (HB0.out.later hb1);have HY1:=zh (Blk.later HX1.out hb1 (by first | (simp;done) | (simp;omega)));have HY3:=zh (Blk.later HX3.out hb1 (by first | (simp;done) | (simp;omega)));have HS1:Hid (Own.SubO w1 w.heap.size (.slice (some ⟨w.heap.size+1+1,0,none⟩) 1 1) [key]):=Own.own_later HSub.out hb1;have p1:=HY1.out.cell;have f1:=HY1.out.frozen;have z1:=HY1.out.lt;have p3':=HY3.out.cell;have z3:=HY3.out.lt;clear hb1;cases rb
   · have HE2:Hid (U=none):=by unfold Hid;rw[HU.out];simp
     go_wp2_with fail;refine bodyPost_ret (v:=.tuple #[.agg #[.slice none 0 0],.int .i64 14]) (by simp[results,Tryz.results106,go_sem,p1]) rfl ?_;rw[HE2.out];exact⟨_,rfl,Own.sub_nil _ _,HB1.out.setCell (by simp) _⟩
   · go_wp2_with fail;refine(HPk.out _ _ (by obtain⟨A,c,e,hc,hs⟩:=HS1.out.strs;rw[HRV2.out];exact⟨A,_,c,e,hs,hc⟩)).mono ?_;rintro e w2 ⟨rfl,hb2⟩;have HB2:=zh (HB1.out.later hb2);have HS2:=zh (Own.own_later HS1.out hb2);have HZ1:=zh (HY1.out.later hb2 HY1.out.lt);have HZ3:=zh (HY3.out.later hb2 HY3.out.lt);clear p1 f1 z1 p3' z3 hb2;have p1:=HZ1.out.cell;have f1:=HZ1.out.frozen;have z1:=HZ1.out.lt;have p3':=HZ3.out.cell;have z3:=HZ3.out.lt;by_cases hve:val=⟨#[]⟩
     · have HE2:Hid (U=some [key]):=by unfold Hid;rw[HU.out,decide_eq_false (show ¬(val≠⟨#[]⟩) from fun h=>h hve),HRV2.out];simp
       subst hve;go_wp2_with fail;refine bodyPost_ret (v:=.tuple #[.agg #[.slice (some ⟨w.heap.size+1+1,0,none⟩) 1 1],.int .i64 0]) (by simp[results,Tryz.results106,go_sem,p1]) rfl ?_;rw[HE2.out];refine⟨_,rfl,?_,HB2.out.setCell (by simp) _⟩;exact World.ownsRow.kept HS2.out (row:=some (w.heap.size+1)) (Own.grown_set _ _ _ _) (.inr (by simp[Value.ownBlock]))
     · have HE2:Hid (U=none):=by unfold Hid;rw[HU.out,decide_eq_true hve];simp
       have hbe:=uC (fun h=>hve h.symm:¬(⟨#[]⟩:ByteArray)=val);have hbn:=zP0 (fun h=>hve h.symm:¬(⟨#[]⟩:ByteArray)=val);have hbe2:=uC hve;have hbn2:=zP0 hve;have hbe3:=uN hve;have hbe4:=zEb hve;clear hve;go_wp2_with fail;refine bodyPost_ret (v:=.tuple #[.agg #[.slice none 0 0],.int .i64 14]) (by simp[results,Tryz.results106,go_sem,p1]) rfl ?_;rw[HE2.out];exact⟨_,rfl,Own.sub_nil _ _,HB2.out.setCell (by simp) _⟩
 · have hgt:1<n2:=by omega
   have HRV2:Hid (ROW=key::CS):=by unfold Hid;rw[HRV.out,if_pos hgt]
   have HPV1:Hid (PK=val):=by unfold Hid;rw[HPV.out,if_pos hgt]
   rw[HPV1.out]at HPk;clear HPV;have HE:Hid (U=if rb=true then some ROW else none):=by unfold Hid;rw[HU.out,decide_eq_false h1];cases rb <;> simp
   have hg1:(1:Int)<(n2:Int):=by omega
   have hne1:((n2:Int)==1)=false:=by rw[beq_eq_false_iff_ne];omega
   have hne2:(n2==1)=false:=by rw[beq_eq_false_iff_ne];omega
   clear HRV HU h1;have p3':=Blk.cell HX3.out 0;have f3:=Blk.frozen HX3.out 0;have z3:=Blk.lt HX3.out;simp at p3';have hsz0:w.heap.size+1+1+1+1=((((w.alloc (.cells #[.string nm,.string gl,.slice A2 n2 p2,.slice A3 n3 p3] 29)).alloc (.cells #[.slice none 0 0] 40)).alloc (.cells #[.string key] 9)).alloc (.cells #[.slice (some ⟨w.heap.size+1+1,0,none⟩) 1 1] 40)).heap.size:=by simp
   have HRA0:Hid (Own.SubO ((((w.alloc (.cells #[.string nm,.string gl,.slice A2 n2 p2,.slice A3 n3 p3] 29)).alloc (.cells #[.slice none 0 0] 40)).alloc (.cells #[.string key] 9)).alloc (.cells #[.slice (some ⟨w.heap.size+1+1,0,none⟩) 1 1] 40)) w.heap.size (.slice (some ⟨w.heap.size+1+1,0,none⟩) 1 1) [key]) :=
    Own.sub_of_blk (ss:=[key]) HX2.out (by omega) (by simp[maxLen])
   go_wp2_with fail
   go_region_law (first
    | (refine step_append_lies _ (by rfl) _ _ _ (by rfl) w.heap.size 9 i0 _ 1 16 Tryz.underlying27 hi hz0 hz1 hz2 rfl (by omega) (.slice (some ⟨w.heap.size+1+1,0,none⟩) 1 1) 1 [.string key] (by rfl) (by exact HRA.out)
        ⟨gc,0,none⟩ CS.length cc (CS.map Value.string) (by rfl) (by simp) (by exact HCC.out) (by exact zAm CS)
        (by have:=HCN.out;omega) (by unfold maxLen;have:=HCL.out.1;omega) (by have:=HCL.out.1;omega) (by omega) w4.heap.size rfl ?_
       intro gg cap' w5 hown5 hgrow5 hat hlt2;have hbg:=(Blk.later HX3.out HB4.out (by omega)).grown hgrow5 (by simp[Value.ownBlock]);have p5:=hbg.cell;have f5:=hbg.frozen;have z5:=hbg.lt;have HBG:=zh hbg;have HOW:=zh hown5;have HGR:=zh hgrow5
       clear hbg hown5 hgrow5)
    | (go_simp
       go_at_call 164;refine(HKC.out _).mono ?_;rintro e w4 ⟨v',rfl,hsub,hb4⟩;have HB4:=zh (xC hb4);obtain⟨AC,cc,rfl,hcc,hmc,hac⟩:=Own.own_slice hsub;obtain⟨gc,rfl,hgc,hgcb⟩:=hac HCN.out;have HCC:=zh (World.ownsRow.cells (g:=gc) hsub rfl);clear hsub hb4;have q2:=(Blk.later HX3.out HB4.out (by omega)).cell 0;simp at q2;have z6:=(Blk.later HX3.out HB4.out (by omega)).lt;have hsz6:=HB4.out.size
       have HRA:=zh (Own.own_later HRA0.out HB4.out)))
   all_goals
    have hgn:gg≠w.heap.size+1+1+1:=by
     rcases hat with h | h
     · simp[Value.ownBlock]at h;omega
     · omega
    have hgn1:gg≠w.heap.size+1:=by
     rcases hat with h | h
     · simp[Value.ownBlock]at h;omega
     · omega
    have HS5:Hid (Own.SubO (w5.setCell ⟨w.heap.size+1+1+1,0,none⟩ (.slice (some ⟨gg,0,none⟩) (1+CS.length) cap')) w.heap.size (.slice (some ⟨gg,0,none⟩) (1+CS.length) cap') (key::CS)):=by have h:=World.ownsRow.kept HOW.out (row:=some (w.heap.size+1+1+1)) (Own.grown_set w5 (w.heap.size+1+1+1) 0 (.slice (some ⟨gg,0,none⟩) (1+CS.length) cap')) (.inr (by simpa [Value.ownBlock] using hgn));unfold Hid Own.SubO;rw[List.length_cons,Nat.add_comm CS.length 1];exact h
    have HB5:=zh (((HB0.out.later HB4.out).grown HGR.out (by omega) (fun g hg=>by simp[Value.ownBlock]at hg;omega)).setCell (p:=⟨w.heap.size+1+1+1,0,none⟩) (by simp;omega) (.slice (some ⟨gg,0,none⟩) (1+CS.length) cap'));have HZ0:=zh (((Blk.later HX0.out HB4.out (by omega)).grown HGR.out (by simp[Value.ownBlock];omega)).far (p:=⟨w.heap.size+1+1+1,0,none⟩) (by simp;omega) (.slice (some ⟨gg,0,none⟩) (1+CS.length) cap'));have HZ1:=zh (((Blk.later HX1.out HB4.out (by omega)).grown HGR.out (by simp[Value.ownBlock])).far (p:=⟨w.heap.size+1+1+1,0,none⟩) (by simp) (.slice (some ⟨gg,0,none⟩) (1+CS.length) cap'));have HZ3:=zh (HBG.out.set_ 0 (.slice (some ⟨gg,0,none⟩) (1+CS.length) cap'));have y0:=HZ0.out.cell 0;have y1:=HZ0.out.cell 1;have y2:=HZ0.out.cell 2;have y3:=HZ0.out.cell 3;have y4:=HZ3.out.cell 0;simp at y0 y1 y2 y3 y4;obtain⟨W5,hW5⟩:∃W5,W5=w5.setCell ⟨w.heap.size+1+1+1,0,none⟩ (.slice (some ⟨gg,0,none⟩) (1+CS.length) cap'):=⟨_,rfl⟩;rw[←hW5]at HS5 HB5 HZ0 HZ1 HZ3 y0 y1 y2 y3 y4 ⊢;clear hW5 p3' f3 z3 p5 f5 z5 q2 z6 HBG HOW HGR;go_wp2_with fail;refine(HKR.out _ HB5.out _ (by obtain⟨A,c,e,hc,hs⟩:=HS5.out.strs;rw[HRV2.out];exact⟨A,_,c,e,hs,hc⟩)).mono ?_;rintro e w6 ⟨rfl,hb6⟩;have HB6:=zh (HB5.out.later hb6);have HY1:=zh (HZ1.out.later hb6 HZ1.out.lt);have HY3:=zh (HZ3.out.later hb6 HZ3.out.lt);have HS6:Hid (Own.SubO w6 w.heap.size (.slice (some ⟨gg,0,none⟩) (1+CS.length) cap') (key::CS)):=Own.own_later HS5.out hb6;have p1:=HY1.out.cell;have f1:=HY1.out.frozen;have z1:=HY1.out.lt;have p3':=HY3.out.cell 0;have z3:=HY3.out.lt;simp at p3';clear hb6 y0 y1 y2 y3 y4;cases rb
    · have HE2:Hid (U=none):=by unfold Hid;rw[HE.out];rfl
      go_wp2_with fail;refine bodyPost_ret (v:=.tuple #[.agg #[.slice none 0 0],.int .i64 14]) (by simp[results,Tryz.results106,go_sem,p1]) rfl ?_;rw[HE2.out];exact⟨_,rfl,Own.sub_nil _ _,HB6.out.setCell (by simp) _⟩
    · go_wp2_with fail;refine(HPk.out _ _ (by obtain⟨A,c,e,hc,hs⟩:=HS6.out.strs;rw[HRV2.out];exact⟨A,_,c,e,hs,hc⟩)).mono ?_;rintro e w7 ⟨rfl,hb7⟩;have HB7:=zh (HB6.out.later hb7);have HS7:=zh (Own.own_later HS6.out hb7);have HV1:=zh (HY1.out.later hb7 HY1.out.lt);have HV3:=zh (HY3.out.later hb7 HY3.out.lt);clear p1 f1 z1 p3' z3 hb7;have p1:=HV1.out.cell;have f1:=HV1.out.frozen;have z1:=HV1.out.lt;have p3':=HV3.out.cell 0;have z3:=HV3.out.lt;simp at p3';have HE2:Hid (U=some (key::CS)):=by unfold Hid;rw[HE.out,HRV2.out];rfl
      go_wp2_with fail;refine bodyPost_ret (v:=.tuple #[.agg #[(.slice (some ⟨gg,0,none⟩) (1+CS.length) cap')],.int .i64 0]) (by simp[results,Tryz.results106,go_sem,p1]) rfl ?_;rw[HE2.out];refine⟨_,rfl,?_,HB7.out.setCell (by simp) _⟩;exact World.ownsRow.kept HS7.out (row:=some (w.heap.size+1)) (Own.grown_set _ _ _ _) (.inr (by simpa [Value.ownBlock] using hgn1))
end Go.Proofs.YtfpcjhajjejpdaaGreatDoor
