import Derived.Test.YtfpcjhajjejpdaaGreatDoorY29
import Derived.Test.YtfpcjhajjejpdaaGreatDoorY23
import Derived.Test.YtfpcjhajjejpdaaGreatDoorY30
import Derived.Test.YtfpcjhajjejpdaaGreatDoorY17
import Derived.Deep.RegionHeld3
set_option maxHeartbeats 40000000
open Go.Lib renaming hid → zh
namespace Go.Proofs.YtfpcjhajjejpdaaGreatDoor
open Go.RowKit
set_option linter.unusedVariables false
theorem zGz:∀(gs:List ChgD) (us:List Value),(∀u∈us,u.oneCell'=true)→∀x∈Own.flat zDh gs us,x.oneCell'=true
 | [],_,_,x,hx=>by simp[Own.flat]at hx
 | _::_,[],_,x,hx=>by simp[Own.flat]at hx
 | d::gs,u::us,h,x,hx=>by
   simp only[Own.flat,List.mem_append]at hx;rcases hx with hx | hx
   · have hu:=h u (by simp);simp only[zDh,List.mem_cons,List.not_mem_nil,or_false]at hx;rcases hx with rfl | rfl | rfl | rfl
     · rfl
     · rfl
     · exact hu
     · rfl
   · exact zGz gs us (fun y hy=>h y (List.mem_cons_of_mem _ hy)) x hx
theorem zMj {w:World} {base t:Nat} {v:Value} {gs:List ChgD} {us:List Value} (h:Own.OwnL zDh w base t v gs us):∀x∈Own.flat zDh gs us,x.oneCell'=true :=
 zGz gs us fun u hu=>by obtain⟨j,hj,rfl⟩:=Own.mem_getD hu;obtain⟨A,cap,e,_⟩:=Own.own_slice (h.subs j (by rw[←h.len];exact hj));rw[e];rfl
theorem zLA {w0 w4 w5:World} {base:Nat} {v v4 v5:Value} {fs gs:List ChgD} {vs us:List Value} (h:Own.OwnL zDh w0 base 88 v fs vs) (hw:base≤w0.heap.size) (hb:Below w0.heap.size w0 w4) (k:Own.OwnL zDh w4 w0.heap.size 88 v4 gs us)
 (hrow:w5.ownsRow base 88 4 v5 (fs.length+gs.length) (Own.flat zDh fs vs++Own.flat zDh gs us)) (hg:w4.grownBy w5 v.ownBlock):ChgsO w5 base v5 (fs++gs) :=
 ⟨vs++us,OwnL.app (h.later hb) (k.base hw) (fun a ha c hc=>by
   obtain⟨j,hj,rfl⟩:=Own.mem_getD hc
   exact h.fresh (k.subs j (by rw[←k.len];exact hj)) (Nat.le_refl _) a ha) hrow hg (by decide)⟩
set_option maxRecDepth 100000 in
theorem zCV (b0 b1 b2 b3 r0:Value) (b:TableD) (r:List ByteArray) (col:ByteArray) (kind:Int) (w:World) (hb:TableR w w.heap.size b0 b1 b2 b3 b) (h:RowR w w.heap.size r0 r) (hcl:b.cols.length≤1048576) (hpl:0≤xA b.cols col) (hlt:(xA b.cols col).toNat<r.length) :
 Calls Tryz.prog 60 #[.agg #[b0,b1,b2,b3],.agg #[r0],.string col,.int .i64 kind] w (zFJ (zAA kind b.glob b.cols r col) w):=by
 obtain⟨k,hk⟩:∃k:Nat,xA b.cols col=(k:Int):=⟨(xA b.cols col).toNat,by omega⟩;obtain⟨rfl,rfl,⟨A2,n2,p2,rfl,s2,k2⟩,⟨A3,n3,p3,rfl,s3,k3⟩⟩:=hb;obtain⟨A,n,c,rfl,hs,hnc⟩:=h;rw[hs.1,hk,Int.toNat_natCast]at hlt;obtain⟨rb,ro,rfl,hrb,hrc⟩:=hs.2 (by omega);have hc0:=hrc 0 (by omega);have hck:=hrc k hlt;rw[Nat.add_zero]at hc0;have HKP:=zh (fun W (hW:Below w.heap.size w W)=>((yE A2 n2 p2 b.cols col W (s2.later hW) (by rw[←s2.1];exact hcl)).mono (R':=fun e w'=>e=.returned (.int .i64 (k:Nat))∧Below W.heap.size W w') (fun e w' ⟨h1,h2⟩=>⟨by rw[h1,hk],h2 ▸ Below.refl _ _⟩)));have HR:Hid (zAA kind b.glob b.cols r col=if r.getD k ByteArray.empty=⟨#[]⟩ then [] else [⟨kind,b.glob,[iS,col,r.getD k ByteArray.empty,r.getD 0 ByteArray.empty],⟨#[]⟩⟩]):=by unfold Hid zAA cellAt;rw[hk];rfl
 clear s2 s3 hs hrc hk hcl hpl;generalize zAA kind b.glob b.cols r col=R at *;generalize r.getD k ByteArray.empty=v at *;generalize r.getD 0 ByteArray.empty=key at *;generalize b.name=nm at *;generalize b.glob=gl at *;have hk1:(k:Int)<(n:Int):=by omega
 have hn1:0<n:=by omega
 obtain⟨WB,hWB⟩:∃WB,WB=(w.alloc (.cells #[.string nm,.string gl,.slice A2 n2 p2,.slice A3 n3 p3] 29)).alloc (.cells #[.slice (some ⟨rb,ro,none⟩) n c] 40):=⟨_,rfl⟩;have HX0:Hid (Blk WB w.heap.size 29 #[.string nm,.string gl,.slice A2 n2 p2,.slice A3 n3 p3]):=by subst hWB;exact yC _ _ _
 have HX1:Hid (Blk WB (w.heap.size+1) 40 #[.slice (some ⟨rb,ro,none⟩) n c]):=by subst hWB;exact vB _ _ _
 have HBB:Hid (Below w.heap.size w WB):=by subst hWB;exact(Below.new _ _).later (Below.new _ _)
 have HS1:Hid (∀W',Below WB.heap.size WB W'→(W'.cell? ⟨w.heap.size,1,none⟩=some (.string gl)∧W'.cell? ⟨w.heap.size,2,none⟩=some (.slice A2 n2 p2)∧W'.cell? ⟨w.heap.size+1,0,none⟩=some (.slice (some ⟨rb,ro,none⟩) n c)∧W'.cell? ⟨rb,ro+k,none⟩=some (.string v)∧W'.cell? ⟨rb,ro,none⟩=some (.string key))):=fun W' hW=>⟨(HX0.out.later hW HX0.out.lt).at 1 rfl,(HX0.out.later hW HX0.out.lt).at 2 rfl,(HX1.out.later hW HX1.out.lt).at 0 rfl,((HBB.out.later hW).cell (p:=⟨rb,ro+k,none⟩) hrb).trans hck,((HBB.out.later hW).cell (p:=⟨rb,ro,none⟩) hrb).trans hc0⟩;have hwz:=HBB.out.size;go_enter Tryz.func60,Tryz.ntmps60;go_wp2_with fail;rw[←hWB];clear hWB
 go_region_held3 (fun W'=>W'.cell? ⟨w.heap.size,1,none⟩=some (.string gl)∧W'.cell? ⟨w.heap.size,2,none⟩=some (.slice A2 n2 p2)∧W'.cell? ⟨w.heap.size+1,0,none⟩=some (.slice (some ⟨rb,ro,none⟩) n c)∧W'.cell? ⟨rb,ro+k,none⟩=some (.string v)∧W'.cell? ⟨rb,ro,none⟩=some (.string key))
  (first | exact HS1.out _ hb1 | exact HS1.out _ (Below.refl _ _).drew)
  ((go_at_call 90;refine(HKP.out _ (by exact HBB.out.drew)).mono ?_;rintro e w1 ⟨rfl,hb1'⟩;have hb1:=wD hb1';clear hb1'))
 have HB1:=zh (HBB.out.later hb1);obtain⟨x0,x1,x2,x3,x4⟩:=HS1.out _ hb1;have z1:=hb1.size;have zw:w.heap.size<w1.heap.size:=by have:=HX0.out.lt;omega
 have zw1:w.heap.size+1<w1.heap.size:=by have:=HX1.out.lt;omega
 have zr:rb<w1.heap.size:=by omega
 clear hb1;by_cases hv:v=⟨#[]⟩
 · have HE:Hid (R=[]):=by unfold Hid;rw[HR.out,if_pos hv]
   subst hv;go_wp2_with fail;go_ret;exact⟨_,rfl,by rw[HE.out];exact zAu _ _ HB1.out.size,HB1.out.later (Below.new _ _)⟩
 · have HE:Hid (R=[⟨kind,gl,[iS,col,v,key],⟨#[]⟩⟩]):=by unfold Hid;rw[HR.out,if_neg hv]
   have hbe:=zB0 hv;have hbe3:=zAh (l:=[]) hv;have HCO:=zh (zIJ (d:=⟨kind,gl,[iS,col,v,key],⟨#[]⟩⟩) (zKr (w:=w1) (base:=w.heap.size) [iS,col,v,key] #[.string ⟨#[105]⟩,.string col,.string v,.string key] HB1.out.size (by simp) rfl) (by have:=HB1.out.size;simp;omega));clear hv;go_wp2_with fail;first | go_region | skip
   go_wp2_with fail;go_ret;refine⟨.slice (some ⟨w1.heap.size+1,0,none⟩) 1 1,rfl,?_,((HB1.out.later (Below.new _ _)).later (Below.new _ _)).drew⟩;rw[HE.out];have h:=HCO.out;simp only[World.size_alloc]at h;exact ChgsO.later ⟨_,h⟩ (Below.refl _ _).drew
theorem zHf (F:ByteArray→List ChgD) (l:List ByteArray) (k:Nat) (h:k<l.length):(l.take (k+1)).flatMap F=(l.take k).flatMap F++F (l.getD k ByteArray.empty):=by
 rw[List.take_succ_eq_append_getElem h,List.flatMap_append,List.getD_eq_getElem?_getD,List.getElem?_eq_getElem h];simp
theorem zEc (F:ByteArray→List ChgD) (hF:∀c,(F c).length≤1):∀(l:List ByteArray),(l.flatMap F).length≤l.length
 | []=>by simp
 | x::t=>by have h1:=hF x;have h2:=zEc F hF t;rw[List.flatMap_cons,List.length_append,List.length_cons];omega
set_option maxRecDepth 100000 in
theorem zFP (b0 b1 b2 b3 r0:Value) (b:TableD) (r:List ByteArray) (w:World) (hb:TableR w w.heap.size b0 b1 b2 b3 b) (h:RowR w w.heap.size r0 r) (hsm:wH r) (hpos:0<r.length) (hcl:b.cols.length≤1048576) (hil:b.idx.length≤1000000) (hpl:∀c∈b.idx,0≤xA b.cols c∧(xA b.cols c).toNat<r.length) :
 Calls Tryz.prog 81 #[.agg #[b0,b1,b2,b3],.agg #[r0]] w (zFJ (zEl b.glob r::zBG 1 b r) w):=by
 obtain⟨i0,hi0,hz0,hz1,hz2⟩:=info_parts zMp;have HKS:=zh (fun W (hW:Below w.heap.size w W)=>zJG b0 b1 b2 b3 r0 b r W (hb.later hW) (h.later hW) hsm hpos);have HKI:=zh (fun c (hc:c∈b.idx) W (hW:Below w.heap.size w W)=>zCV b0 b1 b2 b3 r0 b r c 1 W (hb.later hW) (h.later hW) hcl (hpl c hc).1 (hpl c hc).2);have HFL:=zh (zMr 1 b.glob b.cols r);have HR:Hid (zBG 1 b r=b.idx.flatMap (zAA 1 b.glob b.cols r)):=rfl;obtain⟨rfl,rfl,⟨A2,n2,p2,rfl,s2,k2⟩,⟨A3,n3,p3,rfl,s3,k3⟩⟩:=hb;obtain⟨A,n,c,rfl,hs,hnc⟩:=h;have HSX:=zh s3;have HLI:=zh s3.1;have hn3:n3≤1000000:=by rw[←s3.1];exact hil
 clear s2 s3 hs hsm hpos hcl hil hpl;generalize zBG 1 b r=IX at *;generalize zAA 1 b.glob b.cols r=F at *;generalize zEl b.glob r=D at *;generalize b.idx=ids at *;generalize b.name=nm at *;generalize b.glob=gl at *;obtain⟨WB,hWB⟩:∃WB,WB=(w.alloc (.cells #[.string nm,.string gl,.slice A2 n2 p2,.slice A3 n3 p3] 29)).alloc (.cells #[.slice A n c] 40):=⟨_,rfl⟩;have HX0:Hid (Blk WB w.heap.size 29 #[.string nm,.string gl,.slice A2 n2 p2,.slice A3 n3 p3]):=by subst hWB;exact yC _ _ _
 have HX1:Hid (Blk WB (w.heap.size+1) 40 #[.slice A n c]):=by subst hWB;exact vB _ _ _
 have HBB:Hid (Below w.heap.size w WB):=by subst hWB;exact(Below.new _ _).later (Below.new _ _)
 have HS1:Hid (∀W',Below WB.heap.size WB W'→(W'.cell? ⟨w.heap.size,0,none⟩=some (.string nm)∧W'.cell? ⟨w.heap.size,1,none⟩=some (.string gl)∧W'.cell? ⟨w.heap.size,2,none⟩=some (.slice A2 n2 p2)∧W'.cell? ⟨w.heap.size,3,none⟩=some (.slice A3 n3 p3)∧W'.cell? ⟨w.heap.size+1,0,none⟩=some (.slice A n c))):=fun W' hW=>⟨(HX0.out.later hW HX0.out.lt).at 0 rfl,(HX0.out.later hW HX0.out.lt).at 1 rfl,(HX0.out.later hW HX0.out.lt).at 2 rfl,(HX0.out.later hW HX0.out.lt).at 3 rfl,(HX1.out.later hW HX1.out.lt).at 0 rfl⟩;obtain⟨y0,y1,y2,y3,y4⟩:=HS1.out _ (Below.refl _ _);have hwz:=HBB.out.size;have zw0:=HX0.out.lt;have zw1:=HX1.out.lt;go_enter Tryz.func81,Tryz.ntmps81;go_wp2_with fail;rw[←hWB];clear hWB;first | (refine(HKS.out _ HBB.out).mono ?_) | (go_wp2_with fail;refine(HKS.out _ HBB.out).mono ?_)
 rintro e w1 ⟨v1,rfl,hsub1,hb1⟩;obtain⟨A1,cap1,rfl,_,_,_⟩:=Own.own_slice hsub1;have HB1:=zh hb1;have HO1:=zh (zIJ hsub1 hb1.size);have hz1':=hb1.size;clear hb1 hsub1 y0 y1 y2 y3 y4 HKS;go_wp2_with fail;go_loopw [5,6] (fun v i wr=>∃(k:Nat),k≤n3∧i=.int .i64 k∧ChgsO wr WB.heap.size v (D::(ids.take k).flatMap F)∧Below WB.heap.size WB wr) (fun _ i _=>n3-(intOf i).toNat);case atStart=>exact⟨0,Nat.zero_le _,rfl,⟨_,HO1.out⟩,HB1.out.later (Below.new _ _)⟩
 case round =>
  obtain⟨k,hk,rfl,⟨vs,hown⟩,hb⟩:=hrel;have HB:=zh hb;have HO:=zh hown;obtain⟨x0,x1,x2,x3,x4⟩:=HS1.out _ hb;have HBw:=zh (HBB.out.later hb);have hwr:=hb.size;clear hb hown HO1 HB1;by_cases hlt:k<n3
  · obtain⟨ib,io,rfl,hib,hic⟩:=(HSX.out.later HBw.out).2 (by omega);have hik:=hic k hlt;have hl:k<ids.length:=by rw[HLI.out];exact hlt
    have HKc:=zh (HKI.out _ (uD ids k hl));have HST:=zh (zHf F ids k hl);have HF1:=zh (HFL.out (ids.getD k ByteArray.empty));have HTL:Hid ((D::(ids.take k).flatMap F).length≤1000001):=by unfold Hid;have h1:=zEc F HFL.out (ids.take k);rw[List.length_take]at h1;rw[List.length_cons];omega
    clear hic hl;generalize ids.getD k ByteArray.empty=col at *;generalize hg:F col=gs at *;clear hg;generalize hfs:D::(ids.take k).flatMap F=fs at *;have HFS:=zh hfs;clear hfs;have hN:=HTL.out;generalize hNN:fs.length=N at *;have HN:=zh hNN;clear hNN;have hM:=HF1.out;go_wp2_with fail
    go_region_law (first
     | (refine zEh _ (by rfl) _ _ _ (by rfl) WB.heap.size 88 i0 _ 4 64 Tryz.underlying61 hi0 hz0 hz1 hz2 rfl (by omega) u5 N (Own.flat zDh fs vs) (by rfl) (by exact HRA.out)
         w4.heap.size A4 gs.length cap4 (Own.flat zDh gs us) (by rfl) (by exact HRD.out) (by exact HONE.out)
         (by unfold maxLen;omega) (by omega) (by omega) ?_
        intro v5 w5 hown5 hgrow5 _;have HOW:=zh hown5;have HGR:=zh hgrow5
        clear hown5 hgrow5)
     | (go_simp
        go_at_call 60;refine(HKc.out _ (by exact HBw.out.drew)).mono ?_;rintro e w4 ⟨v4,rfl,⟨us,hown4⟩,hb4'⟩;have hb4:=wD hb4';obtain⟨A4,cap4,rfl,hcap4,_,_⟩:=Own.own_slice hown4.row;have HB4:=zh hb4;have hw4:=hb4.size;have HO4:Hid (Own.OwnL zDh w4 wr.heap.size 88 (.slice A4 gs.length cap4) gs us):=hown4;have HRD:=zh (Reads.of_own hown4.row);have HONE:=zh (zMj hown4);have HRA:Hid (w4.ownsRow WB.heap.size 88 4 u5 N (Own.flat zDh fs vs)):=by have h:=(HO.out.later hb4).row;rw[HN.out]at h;exact h
        clear hb4 hb4' hown4))
    all_goals
     have HC5:Hid (ChgsO w5 WB.heap.size v5 (D::(ids.take (k+1)).flatMap F)):=by unfold Hid;rw[HST.out,←List.cons_append,HFS.out];exact zLA HO.out hwr HB4.out HO4.out (by rw[HN.out];exact HOW.out) HGR.out
     have HB5:Hid (Below WB.heap.size WB w5):=(HB.out.later HB4.out).grown HGR.out (by omega) (fun g hg=>(World.ownsRow.lt HRA.out g hg).1);clear x0 x1 x2 x3 x4;go_wp2_with fail;go_roundw;case rel=>exact⟨k+1,by omega,by go_num,HC5.out,HB5.out⟩
     case measure=>simp[intOf];omega
  · have HE:Hid (D::(ids.take k).flatMap F=D::IX):=by unfold Hid;rw[List.take_of_length_le (by rw[HLI.out];omega),HR.out]
    have HCE:Hid (ChgsO wr w.heap.size u5 (D::IX)):=by unfold Hid;rw[←HE.out];exact ChgsO.base ⟨vs,HO.out⟩ hwz
    go_wp2_with fail;go_ret;exact⟨_,rfl,HCE.out,HBw.out⟩
end Go.Proofs.YtfpcjhajjejpdaaGreatDoor
namespace Go.Proofs.YtfpcjhajjejpdaaGreatDoor
open Go.RowKit
set_option linter.unusedVariables false
set_option maxRecDepth 100000 in
theorem zCP (A:Option Addr) (n c:Nat) (b0 b1 b2 b3 r0:Value) (fs:List NodeD) (b:TableD) (r:List ByteArray) (w:World) (ht:Nodes w w.heap.size A n fs) (hb:TableR w w.heap.size b0 b1 b2 b3 b) (h:RowR w w.heap.size r0 r) (hts:vC fs) (hbs:b.small) (hsm:wH r) :
 Calls Tryz.prog 25 #[.agg #[.slice A n c],.agg #[b0,b1,b2,b3],.agg #[r0]] w (zMF (zJN fs b r) w):=by
 have HK1:=zh (fun W (hW:Below w.heap.size w W)=>zL0 A n c fs W (ht.later hW) hts);have HK2:=zh (fun W (hW:Below w.heap.size w W)=>zCo b0 b1 b2 b3 b W (hb.later hW) hbs);have HK3:Hid (xP b=true→∀W (hW:Below w.heap.size w W),Calls Tryz.prog 78 #[.agg #[b0,b1,b2,b3],.agg #[r0]] W fun e w'=>e=.returned (.bool (vT b.cols r))∧Below W.heap.size W w'):=fun h1 W hW=>zEW b0 b1 b2 b3 r0 b r W (hb.later hW) (h.later hW) hsm (by have:=(zN0 h1).2.1;omega);have HK4:=zh (fun W (hW:Below w.heap.size w W)=>zBs A n c b0 b1 b2 b3 fs b W (ht.later hW) (hb.later hW) hts)
 have HK5:Hid (xP b=true→vT b.cols r=true→∀W (hW:Below w.heap.size w W),Calls Tryz.prog 81 #[.agg #[b0,b1,b2,b3],.agg #[r0]] W (zFJ (zEl b.glob r::zBG 1 b r) W)):=fun h1 h2 W hW=>by
  obtain⟨f1,f2,f3,f4,f5⟩:=zN0 h1;have hrl:r.length=b.cols.length:=by unfold vT at h2;simp only[Bool.and_eq_true,decide_eq_true_eq]at h2;exact h2.1
  exact zFP b0 b1 b2 b3 r0 b r W (hb.later hW) (h.later hW) hsm (by omega) (by omega) (by omega) (fun x hx=>⟨by have:=f5 x hx;omega,by have:=(xD b.cols x).2;have:=f5 x hx;omega⟩)
 have HL:=zh (zCS (g:=b.glob) hts);have H2:=zh (zAZ (g:=b.glob) (fs:=fs));have HPOS:Hid (xP b=true→vT b.cols r=true→0<r.length):=fun h1 h2=>by have f2:=(zN0 h1).2.1;unfold vT at h2;simp only[Bool.and_eq_true,decide_eq_true_eq]at h2;omega
 have HR:Hid (zJN fs b r=if (uA fs&&(xP b&&vT b.cols r))=true then
  (if 0≤atI (vA b.glob fs) (r.getD 0 ByteArray.empty) then (5,[]) else if 24≤(vA b.glob fs).length then (4,[]) else (0,zEl b.glob r::zBG 1 b r)) else (1,[])):=rfl
 obtain⟨rfl,rfl,⟨A2,n2,p2,rfl,s2,k2⟩,⟨A3,n3,p3,rfl,s3,k3⟩⟩:=hb;obtain⟨A4,n4,p4,rfl,hrs,k4⟩:=h;have HRS:=zh hrs;have HRL:=zh hrs.1;clear s2 s3 ht hts hbs hrs hsm;generalize zJN fs b r=R at *;generalize zEl b.glob r::zBG 1 b r=IL at *;generalize uA fs=xt at *;generalize xP b=xb at *;generalize vT b.cols r=xr at *;generalize vA b.glob fs=ns at *;generalize b.name=nm at *;generalize b.glob=gl at *;obtain⟨WB,hWB⟩:∃WB,WB=((w.alloc (.cells #[.slice A n c] 26)).alloc (.cells #[.string nm,.string gl,.slice A2 n2 p2,.slice A3 n3 p3] 29)).alloc (.cells #[.slice A4 n4 p4] 40):=⟨_,rfl⟩;have HX0:Hid (Blk WB w.heap.size 26 #[.slice A n c]):=by subst hWB;exact zK0 _ _ _ _
 have HX1:Hid (Blk WB (w.heap.size+1) 29 #[.string nm,.string gl,.slice A2 n2 p2,.slice A3 n3 p3]):=by subst hWB;exact vG _ _ _ _
 have HX2:Hid (Blk WB (w.heap.size+1+1) 40 #[.slice A4 n4 p4]):=by subst hWB;exact zG0 _ _ _ _
 have HBB:Hid (Below w.heap.size w WB):=by subst hWB;exact yG w _ _ _
 have HS1:Hid (∀W',Below WB.heap.size WB W'→(W'.cell? ⟨w.heap.size,0,none⟩=some (.slice A n c)∧W'.cell? ⟨w.heap.size+1,0,none⟩=some (.string nm)∧W'.cell? ⟨w.heap.size+1,1,none⟩=some (.string gl)∧W'.cell? ⟨w.heap.size+1,2,none⟩=some (.slice A2 n2 p2)∧W'.cell? ⟨w.heap.size+1,3,none⟩=some (.slice A3 n3 p3)∧W'.cell? ⟨w.heap.size+1+1,0,none⟩=some (.slice A4 n4 p4))):=fun W' hW=>⟨(HX0.out.later hW HX0.out.lt).at 0 rfl,(HX1.out.later hW HX1.out.lt).at 0 rfl,(HX1.out.later hW HX1.out.lt).at 1 rfl,(HX1.out.later hW HX1.out.lt).at 2 rfl,(HX1.out.later hW HX1.out.lt).at 3 rfl,(HX2.out.later hW HX2.out.lt).at 0 rfl⟩;go_enter Tryz.func25,Tryz.ntmps25;go_wp2_with fail;rw[←hWB];clear hWB;refine(HK1.out _ HBB.out).mono ?_;rintro e w1 ⟨rfl,hb1⟩;have HB1:=zh hb1;clear hb1;cases xt
 · have HE:Hid (R=(1,[])):=by unfold Hid;rw[HR.out];rfl
   go_wp2_with fail;refine bodyPost_ret (v:=.tuple #[.slice (some ⟨_,0,none⟩) 0 0,.int .i64 _]) (by simp[results,Tryz.results25,go_sem];try exact⟨rfl,rfl⟩) rfl ?_;exact⟨_,by rw[HE.out],by rw[HE.out];exact zAu _ _ (HBB.out.later HB1.out).size,(HBB.out.later HB1.out).later (Below.new _ _)⟩
 obtain⟨x0,x1,x2,x3,x4,x5⟩:=HS1.out _ HB1.out;go_wp2_with fail;refine(HK2.out _ (HBB.out.later HB1.out)).mono ?_;rintro e w2 ⟨rfl,hb2⟩;have HB2:=zh (HB1.out.later hb2);clear hb2 x0 x1 x2 x3 x4 x5;cases xb
 · have HE:Hid (R=(1,[])):=by unfold Hid;rw[HR.out];rfl
   go_wp2_with fail;refine bodyPost_ret (v:=.tuple #[.slice (some ⟨_,0,none⟩) 0 0,.int .i64 _]) (by simp[results,Tryz.results25,go_sem];try exact⟨rfl,rfl⟩) rfl ?_;exact⟨_,by rw[HE.out],by rw[HE.out];exact zAu _ _ (HBB.out.later HB2.out).size,(HBB.out.later HB2.out).later (Below.new _ _)⟩
 obtain⟨x0,x1,x2,x3,x4,x5⟩:=HS1.out _ HB2.out;go_wp2_with fail;refine(HK3.out (by first | rfl | trivial) _ (HBB.out.later HB2.out)).mono ?_;rintro e w3 ⟨rfl,hb3⟩;have HB3:=zh (HB2.out.later hb3);clear hb3 x0 x1 x2 x3 x4 x5;cases xr
 · have HE:Hid (R=(1,[])):=by unfold Hid;rw[HR.out];rfl
   go_wp2_with fail;refine bodyPost_ret (v:=.tuple #[.slice (some ⟨_,0,none⟩) 0 0,.int .i64 _]) (by simp[results,Tryz.results25,go_sem];try exact⟨rfl,rfl⟩) rfl ?_;exact⟨_,by rw[HE.out],by rw[HE.out];exact zAu _ _ (HBB.out.later HB3.out).size,(HBB.out.later HB3.out).later (Below.new _ _)⟩
 obtain⟨x0,x1,x2,x3,x4,x5⟩:=HS1.out _ HB3.out;have hpos:=HPOS.out (by first | rfl | trivial) (by first | rfl | trivial);have HK6:=zh (HK5.out (by first | rfl | trivial) (by first | rfl | trivial));have HRB:Hid (R=if 0≤atI ns (r.getD 0 ByteArray.empty) then (5,[]) else if 24≤ns.length then (4,[]) else (0,IL)):=by unfold Hid;rw[HR.out];rfl
 clear HK5 HPOS HR;go_wp2_with fail;refine(HK4.out _ (HBB.out.later HB3.out)).mono ?_;rintro e w4 ⟨v,cs,rfl,ho,hc,hb4⟩;obtain⟨A5,cap5,rfl,hcap5,hN5⟩:=zM0 ho rfl hc hb4;have HN5:=zh hN5;have HB4:=zh (HB3.out.later hb4);clear hb4 ho hc hN5 x0 x1 x2 x3 x4 x5;obtain⟨x0,x1,x2,x3,x4,x5⟩:=HS1.out _ HB4.out;rw[HRL.out]at hpos;obtain⟨rb,ro,rfl,hrb,hrc⟩:=HRS.out.2 hpos;have hr0:=((HBB.out.later HB4.out).cell (p:=⟨rb,ro,none⟩) hrb).trans (hrc 0 hpos);have HKA:=zh (fun W (hW:Below w4.heap.size w4 W)=>zGr A5 ns.length cap5 ns (r.getD 0 ByteArray.empty) W (HN5.out.later hW) HL.out H2.out);have HNL:=zh HL.out;clear hrc;generalize r.getD 0 ByteArray.empty=key at *;generalize atI ns key=ix at *;generalize hnl:ns.length=nl at *;have hnl2:nl≤1048576:=by have:=HNL.out;omega
 clear hnl;go_wp2_with fail
 first
   | (refine(HKA.out _ (by exact(Below.refl _ _))).mono ?_
      rintro e w5 ⟨rfl,hb5⟩)
   | (go_region_held3 (fun W'=>W'.cell? ⟨w.heap.size+1+1,0,none⟩=some (.slice (some ⟨rb,ro,none⟩) n4 p4)∧W'.cell? ⟨rb,ro,none⟩=some (.string key)) (first | exact⟨x5,hr0⟩ | exact⟨cell_later hb5 x5,cell_later hb5 hr0⟩)
       ((go_at_call 80;refine(HKA.out _ (by exact(Below.refl _ _).drew)).mono ?_;rintro e w5 ⟨rfl,hb5'⟩;have hb5:=wD hb5';clear hb5')))
 have HB5:=zh (HB4.out.later hb5);clear hb5 x0 x1 x2 x3 x4 x5 hr0;obtain⟨x0,x1,x2,x3,x4,x5⟩:=HS1.out _ HB5.out;by_cases h0:0≤ix
 · have HE:Hid (R=(5,[])):=by unfold Hid;rw[HRB.out,if_pos h0]
   go_wp2_with fail;refine bodyPost_ret (v:=.tuple #[.slice (some ⟨_,0,none⟩) 0 0,.int .i64 _]) (by simp[results,Tryz.results25,go_sem];try exact⟨rfl,rfl⟩) rfl ?_;exact⟨_,by rw[HE.out],by rw[HE.out];exact zAu _ _ (HBB.out.later HB5.out).size,(HBB.out.later HB5.out).later (Below.new _ _)⟩
 by_cases h24:24≤nl
 · have HE:Hid (R=(4,[])):=by unfold Hid;rw[HRB.out,if_neg h0,if_pos h24]
   go_wp2_with fail;refine bodyPost_ret (v:=.tuple #[.slice (some ⟨_,0,none⟩) 0 0,.int .i64 _]) (by simp[results,Tryz.results25,go_sem];try exact⟨rfl,rfl⟩) rfl ?_;exact⟨_,by rw[HE.out],by rw[HE.out];exact zAu _ _ (HBB.out.later HB5.out).size,(HBB.out.later HB5.out).later (Below.new _ _)⟩
 have HE:Hid (R=(0,IL)):=by unfold Hid;rw[HRB.out,if_neg h0,if_neg h24]
 go_wp2_with fail;refine(HK6.out _ (HBB.out.later HB5.out)).mono ?_;rintro e w6 ⟨v6,rfl,hc6,hb6⟩;obtain⟨A6,cap6,rfl,_,_⟩:=hc6.reads;have HC6:=zh (hc6.base (HBB.out.later HB5.out).size);have HB6:=zh ((HBB.out.later HB5.out).later hb6);clear hc6 hb6 x0 x1 x2 x3 x4 x5;go_wp2_with fail;refine bodyPost_ret (v:=.tuple #[.slice A6 _ cap6,.int .i64 _]) (by simp[results,Tryz.results25,go_sem];try exact⟨rfl,rfl⟩) rfl ?_;exact⟨_,by rw[HE.out],by rw[HE.out];exact HC6.out,HB6.out⟩
end Go.Proofs.YtfpcjhajjejpdaaGreatDoor
namespace Go.Proofs.YtfpcjhajjejpdaaGreatDoor
open Go.RowKit
set_option linter.unusedVariables false
theorem zFv {d:ChgD} (h:vS d=true):d.small:=by
 unfold vS zI0 at h;simp only[Bool.and_eq_true,Bool.or_eq_true,decide_eq_true_eq]at h;obtain⟨⟨h1,h2⟩,h3⟩:=h;unfold xB at h1;simp only[Bool.and_eq_true,decide_eq_true_eq]at h1;unfold wT at h2;simp only[Bool.and_eq_true,decide_eq_true_eq,List.all_eq_true]at h2;refine⟨by omega,⟨by omega,fun s hs=>?_⟩,?_⟩
 · have h4:=h2.2 s hs;unfold zAc at h4;simp only[Bool.and_eq_true,decide_eq_true_eq]at h4;omega
 · rcases h3 with ⟨_,h3⟩ | ⟨_,h3⟩
   · omega
   · rw[h3];decide
theorem zLo {fs:List NodeD} {b:TableD} {r:List ByteArray}:(∀d∈(zJN fs b r).2,d.small)∧(zJN fs b r).2.length≤1048576:=by
 unfold zJN;split
 · next hc =>
   simp only[Bool.and_eq_true]at hc;split
   · exact⟨fun d hd=>by simp at hd,by simp⟩
   · split
     · exact⟨fun d hd=>by simp at hd,by simp⟩
     · refine⟨fun d hd=>?_,?_⟩
       · rcases List.mem_cons.1 hd with h | h
         · rw[h];exact zFv (zMN hc.2.1 hc.2.2)
         · exact zFv (zNb 1 (.inl rfl) hc.2.1 hc.2.2 d h).1
       · have h1:=zMq (b:=b) (r:=r) 1;have h2:=zN0 hc.2.1;show(zEl b.glob r::zBG 1 b r).length≤_;rw[List.length_cons];omega
 · exact⟨fun d hd=>by simp at hd,by simp⟩
theorem zJh {ss:List ByteArray} {m:Nat} (h1:ss.length≤m) (h2:∀s∈ss,s.size≤16) (hm:m≤1000):wH ss:=⟨by omega,fun s hs=>by have:=h2 s hs;omega⟩
set_option maxRecDepth 100000 in
theorem zIf (p K:Nat) (b0 b1 b2 b3:Value) (b:TableD) (w:World) (h:SrcR w p K) (hb:TableR w w.heap.size b0 b1 b2 b3 b) (hbs:b.small) (hc6:b.cols.length≤6) (hK:K≤68719476736) :
 Calls Tryz.prog 94 #[.pointer (some ⟨p,0,none⟩),.agg #[b0,b1,b2,b3]] w (zDr p (K+200) w):=by
 have hpw:=h.lt;have HTB:Hid (∀W,DrW p w W→TableR W W.heap.size b0 b1 b2 b3 b):=fun W hd=>by obtain⟨K',hd⟩:=hd;exact h.reads_table hb hd
 have HKO:=zh (fun W (hd:DrW p w W)=>zCo b0 b1 b2 b3 b W (HTB.out W hd) hbs);have HKR:=zh (fun W K' (hd:Drawn p K' w W) (hk:K'≤137438953472)=>zEY p K' b0 b1 b2 b3 b W hd.src (HTB.out W (vD hd)) hc6 (by omega));have HKI:=zh (fun W A n c r0 (fs:List NodeD) r (hd:DrW p w W) (ht:Nodes W W.heap.size A n fs) (hr:RowR W W.heap.size r0 r) (hts:vC fs) (hsm:wH r)=>zCP A n c b0 b1 b2 b3 r0 fs b r W ht (HTB.out W hd) hr hts hbs hsm);obtain⟨rfl,rfl,⟨A2,n2,p2,rfl,s2,k2⟩,⟨A3,n3,p3,rfl,s3,k3⟩⟩:=hb;clear s2 s3 hc6 hbs;generalize hbt:xP b=bt at *;generalize hnm:b.name=nm at *;generalize hgl:b.glob=gl at *;clear hbt hnm hgl;obtain⟨WB,hWB⟩:∃WB,WB=((w.alloc (.cells #[.string nm,.string gl,.slice A2 n2 p2,.slice A3 n3 p3] 29)).alloc (.cells #[.slice none 0 0] 26)).alloc (.cells #[.slice none 0 0] 26):=⟨_,rfl⟩;have HT0:Hid (Blk WB w.heap.size 29 #[.string nm,.string gl,.slice A2 n2 p2,.slice A3 n3 p3]):=by subst hWB;exact zK0 _ _ _ _
 have HS0:Hid (TrS p K w (w.heap.size+1+1) (w.heap.size+1) (.slice none 0 0) [] WB):=by subst hWB;exact⟨wK _ _,zEA,zG0 _ _ _ _,vG _ _ _ _,(Drawn.refl h).later (yG w _ _ _)⟩
 have t0:=HT0.out.cell 0;have t1:=HT0.out.cell 1;have t2:=HT0.out.cell 2;have t3:=HT0.out.cell 3;simp at t0 t1 t2 t3;clear h;go_enter Tryz.func94,Tryz.ntmps94;go_wp2_with fail;rw[←hWB];clear hWB;first | (refine(HKO.out _ (vD HS0.out.draw)).mono ?_) | (go_wp2_with fail;refine(HKO.out _ (vD HS0.out.draw)).mono ?_)
 rintro e w1 ⟨rfl,hb1⟩;have HS1:=zh (HS0.out.later hb1);have HT1:=zh (HT0.out.later hb1 HT0.out.lt);clear hb1 t0 t1 t2 t3 HS0 HT0 HKO;cases bt
 · have HKL:=zh (zIh p K w1 HS1.out.draw.src (by omega));go_wp2_with fail;refine HKL.out.mono ?_;rintro e w2 ⟨v2,gs,rfl,hn2,ht2,hd2⟩;obtain⟨A4,cap4,rfl,_,_⟩:=hn2.reads;have HS2:=zh (HS1.out.drawn hd2 (by omega) (by omega));have HN2:=zh (hn2.base HS1.out.draw.chg.size);have HTR:=zh ht2;clear hn2 ht2 hd2 HKL;have r0:=HS2.out.res.cell 0;have rf:=HS2.out.res.frozen 0;have rz:=HS2.out.res.lt;simp at r0;go_wp2_with fail;refine bodyPost_ret (v:=.agg #[.slice A4 gs.length cap4]) (by simp[results,Tryz.results94,go_sem,r0]) rfl ?_;exact⟨_,gs,rfl,HN2.out.setBlk HS2.out.res (by decide) (by decide),HTR.out,(HS2.out.draw.set (show w.heap.size≤w.heap.size+1 by omega) hpw 0 _).mono (by omega)⟩
 have HK1:=zh (xG p K 7 w1 HS1.out.draw.src (by omega) (by omega));go_wp2_with fail;refine HK1.out.mono ?_;rintro e w2 ⟨x,rfl,hx,hd1⟩;have HS2:=zh (HS1.out.drawn hd1 (by omega) (by omega));have HT2:=zh (Blk.drawn HT1.out hd1 (by omega));have hx6:x≤6:=by omega
 clear hd1 HS1 HT1 HK1 hx;go_wp2_with fail;go_loopw [6] (fun kv wr=>∃(k:Nat) (v:Value) (fs:List NodeD),kv=.int .i64 k∧k≤6∧Hid (TrS p (K+2+16*(6-k)) w (w.heap.size+1+1) (w.heap.size+1) v fs wr)∧Hid (Blk wr w.heap.size 29 #[.string nm,.string gl,.slice A2 n2 p2,.slice A3 n3 p3])) (fun kv _=>(intOf kv).toNat);case atStart=>exact⟨x,_,[],rfl,hx6,HS2.out.mono (by omega),HT2.out⟩
 case round =>
  obtain⟨k,v,fs,rfl,hk,HS,HT⟩:=hrel;clear HS2 HT2;obtain⟨A,cap,rfl,hcap,_⟩:=HS.out.own.reads;generalize hKK:K+2+16*(6-k)=KK at *;have hwo:=HS.out.draw.chg.size;have hqo:=HS.out.box.lt;have t0:=HT.out.cell 0;have t1:=HT.out.cell 1;have t2:=HT.out.cell 2;have t3:=HT.out.cell 3;have q0:=HS.out.box.cell 0;simp at t0 t1 t2 t3 q0;by_cases hk0:0<k
  · have hkB:KK+16≤K+2+16*(6-(k-1)):=by omega
    have hKb:KK≤68719477000:=by omega
    clear hKK;have HKr:=zh (HKR.out wr.drew KK (uG HS.out.draw) (by omega));go_wp2_with fail
    go_region_held3 (fun w'=>w'.cell? ⟨w.heap.size,0,none⟩=some (.string nm)∧w'.cell? ⟨w.heap.size,1,none⟩=some (.string gl)∧w'.cell? ⟨w.heap.size,2,none⟩=some (.slice A2 n2 p2)∧w'.cell? ⟨w.heap.size,3,none⟩=some (.slice A3 n3 p3)∧w'.cell? ⟨w.heap.size+1+1,0,none⟩=some (.slice A fs.length cap))
     (first | with_reducible exact⟨t0,t1,t2,t3,q0⟩ | with_reducible exact⟨y0,y1,y2,y3,y4⟩ | with_reducible exact⟨z0,z1,z2,z3,z4⟩ | go_keep)
     (first
       | (go_at_call 141
          refine HKr.out.mono ?_;rintro e w3 ⟨rv,rs,rfl,hsub,hpos,hlen,hall,hd3'⟩;have hd3:=hd3'.pre (Below.refl _ wr).drew;have HS3:=zh (HS.out.drawn hd3 (by omega) (by omega));have HT3:=zh (Blk.drawn HT.out hd3 (by omega));obtain⟨AR,zDj,rfl,hcR,hsR⟩:=hsub.strs;have HKi:=zh (fun hN=>HKI.out w3 A fs.length cap (.slice AR rs.length zDj) fs rs (vD HS3.out.draw) hN ⟨AR,_,zDj,rfl,hsR,hcR⟩ (wQ HS.out.tree) (zJh hlen hall (by omega)));have HIS:=zh (zLo (fs:=fs) (b:=b) (r:=rs));have y0:=HT3.out.cell 0;have y1:=HT3.out.cell 1;have y2:=HT3.out.cell 2;have y3:=HT3.out.cell 3;have y4:=HS3.out.box.cell 0;simp at y0 y1 y2 y3 y4
          clear hd3 hd3' hsub hpos hlen hall hsR)
       | (go_at_call 25
          refine(HKi.out (by obtain⟨A',c',e',_,hN⟩:=HS3.out.own.reads;injection e' with e1 _ e3;subst e1 e3;exact hN)).mono ?_;generalize zJN fs b rs=IB at *;obtain⟨code,L⟩:=IB;rintro e w4 ⟨lv,rfl,hcl,hb4⟩;have HS4:=zh (HS3.out.later hb4);have HT4:=zh (HT3.out.later hb4 HT3.out.lt);have HC4:=zh hcl;have z0:=HT4.out.cell 0;have z1:=HT4.out.cell 1;have z2:=HT4.out.cell 2;have z3:=HT4.out.cell 3;have z4:=HS4.out.box.cell 0;simp at z0 z1 z2 z3 z4
          clear hb4 hcl HKi))
    clear t0 t1 t2 t3 q0 y0 y1 y2 y3 y4 HKr;have hqz:=HS4.out.box.lt;by_cases hc:code=0
    · obtain⟨AL,capL,rfl,_,hcl⟩:=HC4.out.reads;have HKD:Hid (Calls Tryz.prog 28 #[.agg #[.slice A fs.length cap],.slice AL L.length capL] w4 (zAJ (xM fs L) w4)):=by obtain⟨A',c',e',_,hN⟩:=HS4.out.own.reads;injection e' with e1 _ e3;subst e1 e3;exact zFY A fs.length cap AL L.length capL fs L w4 hN (wQ HS4.out.tree) hcl HIS.out.2 HIS.out.1
      have HDT:Hid ((xM fs L).1=0→uA (xM fs L).2=true):=zFl;subst hc;clear hcl HIS HC4;generalize xM fs L=DB at *;obtain⟨c2,gs⟩:=DB;go_wp2_with fail;refine HKD.out.mono ?_;rintro e w5 ⟨v5,rfl,hn5,hb5⟩;obtain⟨A5,cap5,rfl,_,_⟩:=hn5.reads;have HS5:=zh (HS4.out.later hb5);have HT5:=zh (HT4.out.later hb5 HT4.out.lt);have HN5:=zh (hn5.base HS4.out.draw.chg.size);clear hn5 hb5 HKD HS4 HT4 z0 z1 z2 z3 z4 hqz;have k0:=HS5.out.box.cell 0;have kf:=HS5.out.box.frozen 0;have kz:=HS5.out.box.lt;simp at k0;by_cases hc2:c2=0
      · have HTG:=zh (HDT.out hc2);have HSb:=zh ((HS5.out.put HN5.out HTG.out (by omega) hpw (by omega)).later (Below.new _ (.cells #[.slice A5 gs.length cap5] 26)));have HTb:=zh ((HT5.out.far (p:=⟨w.heap.size+1+1,0,none⟩) (show w.heap.size≠w.heap.size+1+1 by omega) (.slice A5 gs.length cap5)).alloc (.cells #[.slice A5 gs.length cap5] 26));subst hc2;go_wp2_with fail;go_roundw;case rel=>exact⟨k-1,_,gs,by go_num,by omega,HSb.out.mono (by omega),HTb.out⟩
        case measure=>simp[intOf];omega
      · have hb2:(c2==(0:Int))=false:=beq_eq_false_iff_ne.2 hc2;have HSb:=zh (HS5.out.later (Below.new _ (.cells #[.slice A5 gs.length cap5] 26)));have HTb:=zh (HT5.out.alloc (.cells #[.slice A5 gs.length cap5] 26));go_wp2_with fail;go_roundw;case rel=>exact⟨k-1,_,fs,by go_num,by omega,HSb.out.mono (by omega),HTb.out⟩
        case measure=>simp[intOf];omega
    · have hb2:(code==(0:Int))=false:=beq_eq_false_iff_ne.2 hc;go_wp2_with fail;go_roundw;case rel=>exact⟨k-1,_,fs,by go_num,by omega,HS4.out.mono (by omega),HT4.out⟩
      case measure=>simp[intOf];omega
  · obtain rfl:k=0:=by omega
    have hKb:KK≤68719477000:=by omega
    have hKe:KK=K+2+96:=by omega
    have HK3:=zh (wU p KK 2 wr HS.out.draw.src (by omega) (by omega));clear hKK;go_wp2_with fail;refine HK3.out.mono ?_;rintro e w3 ⟨bb,rfl,hd3⟩;have HS3:=zh (HS.out.drawn hd3 (by omega) (by omega));clear hd3 HK3 t0 t1 t2 t3 q0 HT;have k0:=HS3.out.box.cell 0;have kf:=HS3.out.box.frozen 0;have kz:=HS3.out.box.lt;have r0:=HS3.out.res.cell 0;have rf:=HS3.out.res.frozen 0;have rz:=HS3.out.res.lt;simp at k0 r0;cases bb
    · go_wp2_with fail;refine bodyPost_ret (v:=.agg #[.slice A fs.length cap]) (by simp[results,Tryz.results94,go_sem,r0]) rfl ?_;exact⟨_,fs,rfl,HS3.out.own.setBlk HS3.out.res (by decide) (by decide),HS3.out.tree,(HS3.out.draw.set (show w.heap.size≤w.heap.size+1 by omega) hpw 0 _).mono (by omega)⟩
    · have HSL:=zh (HS3.out.later (Below.new w3 (.cells #[.string ⟨#[49]⟩] 9)));have HKP:Hid (Calls Tryz.prog 95 #[.agg #[.slice A fs.length cap],.string ⟨#[65]⟩,.slice (some ⟨w3.heap.size,0,none⟩) 1 1,.string ⟨#[118]⟩] (w3.alloc (.cells #[.string ⟨#[49]⟩] 9)) (zAJ (uT fs ⟨#[65]⟩ [⟨#[49]⟩] ⟨#[118]⟩) (w3.alloc (.cells #[.string ⟨#[49]⟩] 9)))):=by obtain⟨A',c',e',hc',hN⟩:=HSL.out.own.reads;injection e' with e1 _ e3;subst e1 e3;exact zCi A fs.length cap fs ⟨#[65]⟩ (some ⟨w3.heap.size,0,none⟩) 1 1 [⟨#[49]⟩] ⟨#[118]⟩ _ hN hcap (wQ HSL.out.tree) (zAs rfl rfl rfl) (by omega) (zBV (by decide) (by decide) (by decide) (by decide))
      have HDT:Hid ((uT fs ⟨#[65]⟩ [⟨#[49]⟩] ⟨#[118]⟩).1=0→uA (uT fs ⟨#[65]⟩ [⟨#[49]⟩] ⟨#[118]⟩).2=true):=zBq;generalize uT fs ⟨#[65]⟩ [⟨#[49]⟩] ⟨#[118]⟩=DB at *;obtain⟨c2,gs⟩:=DB;go_wp2_with fail;refine HKP.out.mono ?_;rintro e w5 ⟨v5,rfl,hn5,hb5⟩;obtain⟨A5,cap5,rfl,_,_⟩:=hn5.reads;have HS5:=zh (HSL.out.later hb5);have HN5:=zh (hn5.base HSL.out.draw.chg.size);clear hn5 hb5 HKP HSL k0 kf kz r0 rf rz;have k0:=HS5.out.box.cell 0;have kf:=HS5.out.box.frozen 0;have kz:=HS5.out.box.lt;have r0:=HS5.out.res.cell 0;have rf:=HS5.out.res.frozen 0;have rz:=HS5.out.res.lt;simp at k0 r0;by_cases hc2:c2=0
      · have HTG:=zh (HDT.out hc2);have HSb:=zh (HS5.out.put HN5.out HTG.out (by omega) hpw (by omega));subst hc2;go_wp2_with fail;refine bodyPost_ret (v:=.agg #[.slice A5 gs.length cap5]) (by simp[results,Tryz.results94,go_sem,World.cell?_alloc_lt,rz,r0]) rfl ?_;exact⟨_,gs,rfl,(HSb.out.own.setBlk HSb.out.res (by decide) (by decide)).later (Below.new _ _),HTG.out,((HSb.out.draw.set (show w.heap.size≤w.heap.size+1 by omega) hpw 0 _).later (Below.new _ _)).mono (by omega)⟩
      · have hb2:(c2==(0:Int))=false:=beq_eq_false_iff_ne.2 hc2;go_wp2_with fail;refine bodyPost_ret (v:=.agg #[.slice A fs.length cap]) (by simp[results,Tryz.results94,go_sem,World.cell?_alloc_lt,rz,r0]) rfl ?_;exact⟨_,fs,rfl,(HS5.out.own.setBlk HS5.out.res (by decide) (by decide)).later (Below.new _ _),HS5.out.tree,((HS5.out.draw.set (show w.heap.size≤w.heap.size+1 by omega) hpw 0 _).later (Below.new _ _)).mono (by omega)⟩
end Go.Proofs.YtfpcjhajjejpdaaGreatDoor
