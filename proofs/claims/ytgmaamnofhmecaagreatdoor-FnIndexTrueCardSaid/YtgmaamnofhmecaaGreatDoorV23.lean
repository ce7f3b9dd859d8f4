import Derived.Test.YtgmaamnofhmecaaGreatDoorV22
import Derived.Test.YtgmaamnofhmecaaGreatDoorV01
import Derived.Test.YtgmaamnofhmecaaGreatDoorV11
import Derived.Test.YtgmaamnofhmecaaGreatDoorV13
import Derived.Test.YtgmaamnofhmecaaGreatDoorV10
import Derived.Deep.RegionHeld3
set_option maxHeartbeats 8000000
open Go.Lib renaming hid → zh
namespace Go.Proofs.YtgmaamnofhmecaaGreatDoor
open Go.RowKit
set_option linter.unusedVariables false
set_option maxRecDepth 100000 in
theorem zGL (r0:Value) (r:List ByteArray) (w:World) (h:RowR w w.heap.size r0 r) (hsm:wL r) :
 Calls Tryz.prog 138 #[.agg #[r0]] w fun e w'=>e=.returned (.string (uE r))∧Below w.heap.size w w':=by
 obtain⟨A,n,c,rfl,hs,hnc⟩:=h;have hn:=hsm.1
 have HZ:Hid (∀k,(r.getD k ByteArray.empty).size≤1048576):=fun k=>by
  by_cases hk:k<r.length
  · exact hsm.2 _ (vK r k hk)
  · rw[List.getD_eq_getElem?_getD,List.getElem?_eq_none (by omega)];simp
 clear hsm;have Hs:=zh hs;have HL:=zh hs.1;rw[hs.1]at hn;have HN:Hid (uE (r.take 1)=⟨#[]⟩):=zKA (by rw[List.length_take];omega);have H2:Hid (1<n→uE (r.take 2)=r.getD 1 ByteArray.empty):=fun h=>zKz (by rw[HL.out];exact h);have HST:Hid (∀k,1<k→k<n→uE (r.take (k+1))=(uE (r.take k)++⟨#[94]⟩)++r.getD k ByteArray.empty):=fun k h1 h2=>zJC h1 (by rw[HL.out];exact h2);have HE:Hid (∀k,n≤k→uE (r.take k)=uE r):=fun k h=>by rw[List.take_of_length_le (by rw[HL.out];exact h)]
 clear hs;generalize uE r=R at *;go_enter Tryz.func138,Tryz.ntmps138;go_wp2_with fail;go_loopw [3,4] (fun o i wr=>∃(k:Nat),1≤k∧(k≤n∨k=1)∧i=.int .i64 k∧o=.string (uE (r.take k))∧Hid ((uE (r.take k)).size≤k*1048577)∧Below (w.heap.size+1) (w.alloc (.cells #[.slice A n c] 31)) wr) (fun _ i _=>n-(intOf i).toNat);case atStart=>exact⟨1,Nat.le_refl _,.inr rfl,rfl,by rw[HN.out],by unfold Hid;rw[HN.out];exact Nat.zero_le _,Below.refl _ _⟩
 case round =>
  obtain⟨k,hk1,hk,rfl,rfl,HSZ,hb⟩:=hrel;have p0:=(Blk.later (heap_alloc_new w _) hb (by omega)).cell 0;simp at p0;have hz0:w.heap.size<wr.heap.size:=by have:=hb.size;simp at this;omega
  have HB:=zh hb;have HBw:=zh ((Below.new _ _).trans (hb.mono (by omega)));clear hb;by_cases hlt:k<n
  · obtain⟨b,o,rfl,hbB,hc⟩:=(Hs.out.later HBw.out).2 (by omega);have hck:=hc k hlt;clear hc;by_cases h1:k=1
    · subst h1;have HP:=zh (H2.out hlt);have hsz1:=HZ.out 1;generalize r.getD 1 ByteArray.empty=s at *;rw[HN.out];go_wp2_with fail;go_roundw;case rel=>exact⟨2,by omega,.inl (by omega),by go_num,by rw[HP.out];congr 1;first | done | (apply ByteArray.ext;simp[ByteArray.data_append]),by unfold Hid;rw[HP.out];omega,HB.out⟩
      case measure=>simp[intOf];omega
    · have HP:=zh (HST.out k (by omega) hlt);have hk3:1<k:=by omega
      have hsz1:=HZ.out k;have HPS:Hid ((uE (r.take (k+1))).size=(uE (r.take k)).size+1+(r.getD k ByteArray.empty).size):=by unfold Hid;rw[HP.out,ByteArray.size_append,ByteArray.size_append];rfl
      have hz3:(uE (r.take k)).size≤1099512676352:=by have:=HSZ.out;omega
      generalize r.getD k ByteArray.empty=s at *;generalize uE (r.take k)=t at *;go_wp2_with fail;go_roundw;case rel=>exact⟨k+1,by omega,.inl (by omega),by go_num,by rw[HP.out],by have:=HSZ.out;unfold Hid;rw[HPS.out];omega,HB.out⟩
      case measure=>simp[intOf];omega
  · have HF:=zh (HE.out k (by omega));generalize uE (r.take k)=t at *;go_wp2_with fail;go_ret;exact⟨by rw[HF.out];rfl,HBw.out⟩
def zDT (d:ChgD) (w:World) (e:Ending) (w':World):Prop:=∃v,e=.returned (.agg #[.int .i64 d.kind,.string d.name,v,.string d.val])∧Own.SubO w' w.heap.size v d.subs∧Below w.heap.size w w'
theorem vM {Z:World} {bs g n:Nat} (ss:List ByteArray) (cs:Array Value) (hg:Z.heap.size=g) (hb:bs≤g) (hn:ss.length=n) (hm:n≤1048576) (h:cs=wX ss):Own.SubO (Z.alloc (.cells cs 9)) bs (.slice (some ⟨g,0,none⟩) n n) ss:=by
 subst hg hn;exact zCm ss cs hb hm h
theorem xI {w w':World} {bs:Nat} {v:Value} {ss:List ByteArray} (h:Own.SubO w bs v ss) (hb:Below w.heap.size w w'):Own.SubO w' bs v ss:=Own.own_later h hb
theorem zBg {w:World} {bs g t:Nat} {v:Value} {ss:List ByteArray} {a0 a1 a2 a3:Value} (h:Own.SubO w bs v ss) (hB:Blk w g t #[a0,a1,a2,a3]) (ht:9≠t) (x0 x1 x2 x3:Value):Own.SubO ((((w.setCell ⟨g,0,none⟩ x0).setCell ⟨g,1,none⟩ x1).setCell ⟨g,2,none⟩ x2).setCell ⟨g,3,none⟩ x3) bs v ss :=
 (((h.setBlk hB ht).setBlk (hB.set_ 0 x0) ht).setBlk ((hB.set_ 0 x0).set_ 1 x1) ht).setBlk (((hB.set_ 0 x0).set_ 1 x1).set_ 2 x2) ht
theorem xV {a w:World} {B g:Nat} (h:Below B a w) (hg:B≤g) (x0 x1 x2 x3:Value):Below B a ((((w.setCell ⟨g,0,none⟩ x0).setCell ⟨g,1,none⟩ x1).setCell ⟨g,2,none⟩ x2).setCell ⟨g,3,none⟩ x3) :=
 (((h.setCell (p:=⟨g,0,none⟩) hg _).setCell (p:=⟨g,1,none⟩) hg _).setCell (p:=⟨g,2,none⟩) hg _).setCell (p:=⟨g,3,none⟩) hg _
set_option maxRecDepth 100000 in
theorem zEp (b0 b1 b2 b3 r0:Value) (b:TableD) (r:List ByteArray) (w:World) (hb:TableR w w.heap.size b0 b1 b2 b3 b) (h:RowR w w.heap.size r0 r) (hsm:wL r) (hpos:0<r.length) :
 Calls Tryz.prog 59 #[.agg #[b0,b1,b2,b3],.agg #[r0]] w (zDT (xT b.glob r) w):=by
 have HKP:=zh (fun W (hW:Below w.heap.size w W)=>zGL r0 r W (h.later hW) hsm);obtain⟨rfl,rfl,⟨A2,n2,p2,rfl,s2,k2⟩,⟨A3,n3,p3,rfl,s3,k3⟩⟩:=hb;obtain⟨A,n,c,rfl,hs,hnc⟩:=h;rw[hs.1]at hpos;obtain⟨rb,ro,rfl,hrb,hrc⟩:=hs.2 hpos;have hc0:=hrc 0 hpos;rw[Nat.add_zero]at hc0;have HR:Hid (xT b.glob r=⟨1,b.glob,[rS,r.getD 0 ByteArray.empty],uE r⟩):=rfl;clear s2 s3 hs hrc hsm;generalize xT b.glob r=R at *;generalize uE r=pk at *;generalize r.getD 0 ByteArray.empty=key at *;generalize b.name=nm at *;generalize b.glob=gl at *;obtain⟨WB,hWB⟩:∃WB,WB=((w.alloc (.cells #[.string nm,.string gl,.slice A2 n2 p2,.slice A3 n3 p3] 29)).alloc (.cells #[.slice (some ⟨rb,ro,none⟩) n c] 31)).alloc (.cells #[.int .i64 0,.string ⟨#[]⟩,.slice none 0 0,.string ⟨#[]⟩] 88):=⟨_,rfl⟩;have HB0:Hid (Below w.heap.size w WB):=by subst hWB;exact zL0 w _ _ _
 have HTT:Hid (Blk WB w.heap.size 29 #[.string nm,.string gl,.slice A2 n2 p2,.slice A3 n3 p3]):=by subst hWB;exact wN _ _ _ _
 have HRR:Hid (Blk WB (w.heap.size+1) 31 #[.slice (some ⟨rb,ro,none⟩) n c]):=by subst hWB;exact wK _ _ _ _
 have HYY:Hid (Blk WB (w.heap.size+1+1) 88 #[.int .i64 0,.string ⟨#[]⟩,.slice none 0 0,.string ⟨#[]⟩]):=by subst hWB;exact wJ _ _ _ _
 have hrb3:rb<WB.heap.size:=Nat.lt_of_lt_of_le hrb HB0.out.size;have hk0:=(HB0.out.cell (p:=⟨rb,ro,none⟩) hrb).trans hc0;have q1:=HTT.out.cell 1;have q2:=HRR.out.cell 0;have a1:=(HTT.out.alloc (.cells #[.string ⟨#[114]⟩,.string key] 9)).cell 1;have a2:=(HRR.out.alloc (.cells #[.string ⟨#[114]⟩,.string key] 9)).cell 0;have a3:=(World.cell?_alloc_some _ _ (.cells #[.string ⟨#[114]⟩,.string key] 9) (by rw[hk0];rfl)).trans hk0;have hwb:=HB0.out.size;have hwy:=HYY.out.lt;have hne1:w.heap.size+1+1≠rb:=by omega
 have hne0:w.heap.size+1+1≠w.heap.size:=by omega
 have hne2:w.heap.size+1+1≠w.heap.size+1:=by omega
 simp at q1 q2 a1 a2;clear hc0;go_enter Tryz.func59,Tryz.ntmps59;go_wp2_with fail;rw[←hWB];clear hWB
 go_region_held3 (fun w'=>w'.cell? ⟨w.heap.size,1,none⟩=some (.string gl)∧w'.cell? ⟨w.heap.size+1,0,none⟩=some (.slice (some ⟨rb,ro,none⟩) n c)∧w'.cell? ⟨rb,ro,none⟩=some (.string key))
  (first | with_reducible exact⟨q1,q2,hk0⟩ | with_reducible exact⟨a1,a2,a3⟩ | with_reducible exact⟨t1,t0,tk⟩ | go_keep) (first
    | (go_at_call 138
       with_reducible refine(HKP.out WB.drew ?_).mono ?_
       · exact HB0.out.drew
       rintro e w4 ⟨rfl,hb4'⟩;have hbW:=zD0 hb4';have HARM:Hid (w4=w4):=rfl;have HY4:=zh (HYY.out.later hbW HYY.out.lt);have ht4:=HTT.out.later hbW HTT.out.lt;have hr4:=HRR.out.later hbW HRR.out.lt;have t1:=ht4.cell 1;have t0:=hr4.cell 0;have tz:=ht4.lt;have rz:=hr4.lt;have tk:=(hbW.cell (p:=⟨rb,ro,none⟩) hrb3).trans hk0;have y0:=HY4.out.cell 0;have y1:=HY4.out.cell 1;have y2:=HY4.out.cell 2;have y3:=HY4.out.cell 3;have f0:=HY4.out.frozen 0;have f1:=HY4.out.frozen 1;have f2:=HY4.out.frozen 2;have f3:=HY4.out.frozen 3;have z4:=HY4.out.lt;simp at t1 t0 y0 y1 y2 y3;have rz4:rb<w4.heap.size:=Nat.lt_of_lt_of_le hrb3 hbW.size;have HBX:=zh (HB0.out.later hbW);have hwz:=HBX.out.size
       clear hbW hb4' ht4 hr4)
    | (go_at_call 138
       with_reducible refine(HKP.out (WB.alloc (.cells #[.string ⟨#[114]⟩,.string key] 9)).drew ?_).mono ?_
       · exact(HB0.out.later (Below.new _ _)).drew
       rintro e w4 ⟨rfl,hb4'⟩;have hb4:=zD0 hb4';have hbW:=(Below.new WB (.cells #[.string ⟨#[114]⟩,.string key] 9)).later hb4;have HSX:Hid (Own.SubO w4 w.heap.size (.slice (some ⟨WB.heap.size,0,none⟩) 2 2) [rS,key]):=xI (vM [rS,key] _ rfl hwb rfl (by decide) rfl) hb4;have HY4:=zh (HYY.out.later hbW HYY.out.lt);have ht4:=HTT.out.later hbW HTT.out.lt;have hr4:=HRR.out.later hbW HRR.out.lt;have t1:=ht4.cell 1;have t0:=hr4.cell 0;have tz:=ht4.lt;have rz:=hr4.lt;have tk:=(hbW.cell (p:=⟨rb,ro,none⟩) hrb3).trans hk0;have y0:=HY4.out.cell 0;have y1:=HY4.out.cell 1;have y2:=HY4.out.cell 2;have y3:=HY4.out.cell 3;have f0:=HY4.out.frozen 0;have f1:=HY4.out.frozen 1;have f2:=HY4.out.frozen 2;have f3:=HY4.out.frozen 3;have z4:=HY4.out.lt;simp at t1 t0 y0 y1 y2 y3;have rz4:rb<w4.heap.size:=Nat.lt_of_lt_of_le hrb3 hbW.size;have HBX:=zh (HB0.out.later hbW);have hwz:=HBX.out.size
       clear hbW hb4 hb4' ht4 hr4))
 all_goals
  go_wp2_with fail;refine bodyPost_ret (v:=.agg #[.int .i64 1,.string gl,.slice (some ⟨_,0,none⟩) 2 2,.string pk]) (by simp[results,Tryz.results59,go_sem,World.cell?_alloc_lt,z4,y0,y1,y2,y3];try exact rfl) rfl ?_;refine⟨_,by rw[HR.out],?_,?_⟩
  · rw[HR.out]
    first
      | (have:=HARM.out
         exact vM [rS,key] _ (by simp) hwz rfl (by decide) rfl)
      | exact zBg HSX.out HY4.out (by decide) _ _ _ _
  · first
      | (have:=HARM.out
         exact(xV HBX.out (by omega) _ _ _ _).later (Below.new _ _))
      | exact xV HBX.out (by omega) _ _ _ _
end Go.Proofs.YtgmaamnofhmecaaGreatDoor
namespace Go.Proofs.YtgmaamnofhmecaaGreatDoor
open Go.RowKit
set_option linter.unusedVariables false
theorem zFD:∀(gs:List ChgD) (us:List Value),(∀u∈us,u.oneCell'=true)→∀x∈Own.flat uD gs us,x.oneCell'=true
 | [],_,_,x,hx=>by simp[Own.flat]at hx
 | _::_,[],_,x,hx=>by simp[Own.flat]at hx
 | d::gs,u::us,h,x,hx=>by
   simp only[Own.flat,List.mem_append]at hx;rcases hx with hx | hx
   · have hu:=h u (by simp);simp only[uD,List.mem_cons,List.not_mem_nil,or_false]at hx;rcases hx with rfl | rfl | rfl | rfl
     · rfl
     · rfl
     · exact hu
     · rfl
   · exact zFD gs us (fun y hy=>h y (List.mem_cons_of_mem _ hy)) x hx
theorem vL {w:World} {base t:Nat} {v:Value} {gs:List ChgD} {us:List Value} (h:Own.OwnL uD w base t v gs us):∀x∈Own.flat uD gs us,x.oneCell'=true :=
 zFD gs us fun u hu=>by obtain⟨j,hj,rfl⟩:=Own.mem_getD hu;obtain⟨A,cap,e,_⟩:=Own.own_slice (h.subs j (by rw[←h.len];exact hj));rw[e];rfl
theorem zAC {w0 w4 w5:World} {base:Nat} {v v4 v5:Value} {fs gs:List ChgD} {vs us:List Value} (h:Own.OwnL uD w0 base 88 v fs vs) (hw:base≤w0.heap.size) (hb:Below w0.heap.size w0 w4) (k:Own.OwnL uD w4 w0.heap.size 88 v4 gs us)
 (hrow:w5.ownsRow base 88 4 v5 (fs.length+gs.length) (Own.flat uD fs vs++Own.flat uD gs us)) (hg:w4.grownBy w5 v.ownBlock):ChgsO w5 base v5 (fs++gs) :=
 ⟨vs++us,OwnL.app (h.later hb) (k.base hw) (fun a ha c hc=>by
   obtain⟨j,hj,rfl⟩:=Own.mem_getD hc
   exact h.fresh (k.subs j (by rw[←k.len];exact hj)) (Nat.le_refl _) a ha) hrow hg (by decide)⟩
set_option maxRecDepth 100000 in
theorem zAM (b0 b1 b2 b3 r0:Value) (b:TableD) (r:List ByteArray) (col:ByteArray) (kind:Int) (w:World) (hb:TableR w w.heap.size b0 b1 b2 b3 b) (h:RowR w w.heap.size r0 r) (hcl:b.cols.length≤1048576) (hpl:0≤wA b.cols col) (hlt:(wA b.cols col).toNat<r.length) :
 Calls Tryz.prog 61 #[.agg #[b0,b1,b2,b3],.agg #[r0],.string col,.int .i64 kind] w (xN (zI0 kind b.glob b.cols r col) w):=by
 obtain⟨k,hk⟩:∃k:Nat,wA b.cols col=(k:Int):=⟨(wA b.cols col).toNat,by omega⟩;obtain⟨rfl,rfl,⟨A2,n2,p2,rfl,s2,k2⟩,⟨A3,n3,p3,rfl,s3,k3⟩⟩:=hb;obtain⟨A,n,c,rfl,hs,hnc⟩:=h;rw[hs.1,hk,Int.toNat_natCast]at hlt;obtain⟨rb,ro,rfl,hrb,hrc⟩:=hs.2 (by omega);have hc0:=hrc 0 (by omega);have hck:=hrc k hlt;rw[Nat.add_zero]at hc0;have HKP:=zh (fun W (hW:Below w.heap.size w W)=>((wP A2 n2 p2 b.cols col W (s2.later hW) (by rw[←s2.1];exact hcl)).mono (R':=fun e w'=>e=.returned (.int .i64 (k:Nat))∧Below W.heap.size W w') (fun e w' ⟨h1,h2⟩=>⟨by rw[h1,hk],h2 ▸ Below.refl _ _⟩)));have HR:Hid (zI0 kind b.glob b.cols r col=if r.getD k ByteArray.empty=⟨#[]⟩ then [] else [⟨kind,b.glob,[iS,col,r.getD k ByteArray.empty,r.getD 0 ByteArray.empty],⟨#[]⟩⟩]):=by unfold Hid zI0 cellAt;rw[hk];rfl
 clear s2 s3 hs hrc hk hcl hpl;generalize zI0 kind b.glob b.cols r col=R at *;generalize r.getD k ByteArray.empty=v at *;generalize r.getD 0 ByteArray.empty=key at *;generalize b.name=nm at *;generalize b.glob=gl at *;have hk1:(k:Int)<(n:Int):=by omega
 have hn1:0<n:=by omega
 obtain⟨WB,hWB⟩:∃WB,WB=(w.alloc (.cells #[.string nm,.string gl,.slice A2 n2 p2,.slice A3 n3 p3] 29)).alloc (.cells #[.slice (some ⟨rb,ro,none⟩) n c] 31):=⟨_,rfl⟩;have HX0:Hid (Blk WB w.heap.size 29 #[.string nm,.string gl,.slice A2 n2 p2,.slice A3 n3 p3]):=by subst hWB;exact uC _ _ _
 have HX1:Hid (Blk WB (w.heap.size+1) 31 #[.slice (some ⟨rb,ro,none⟩) n c]):=by subst hWB;exact xB _ _ _
 have HBB:Hid (Below w.heap.size w WB):=by subst hWB;exact(Below.new _ _).later (Below.new _ _)
 have HS1:Hid (∀W',Below WB.heap.size WB W'→(W'.cell? ⟨w.heap.size,1,none⟩=some (.string gl)∧W'.cell? ⟨w.heap.size,2,none⟩=some (.slice A2 n2 p2)∧W'.cell? ⟨w.heap.size+1,0,none⟩=some (.slice (some ⟨rb,ro,none⟩) n c)∧W'.cell? ⟨rb,ro+k,none⟩=some (.string v)∧W'.cell? ⟨rb,ro,none⟩=some (.string key))):=fun W' hW=>⟨(HX0.out.later hW HX0.out.lt).at 1 rfl,(HX0.out.later hW HX0.out.lt).at 2 rfl,(HX1.out.later hW HX1.out.lt).at 0 rfl,((HBB.out.later hW).cell (p:=⟨rb,ro+k,none⟩) hrb).trans hck,((HBB.out.later hW).cell (p:=⟨rb,ro,none⟩) hrb).trans hc0⟩;have hwz:=HBB.out.size;go_enter Tryz.func61,Tryz.ntmps61;go_wp2_with fail;rw[←hWB];clear hWB
 go_region_held3 (fun W'=>W'.cell? ⟨w.heap.size,1,none⟩=some (.string gl)∧W'.cell? ⟨w.heap.size,2,none⟩=some (.slice A2 n2 p2)∧W'.cell? ⟨w.heap.size+1,0,none⟩=some (.slice (some ⟨rb,ro,none⟩) n c)∧W'.cell? ⟨rb,ro+k,none⟩=some (.string v)∧W'.cell? ⟨rb,ro,none⟩=some (.string key))
  (first | exact HS1.out _ hb1 | exact HS1.out _ (Below.refl _ _).drew)
  ((go_at_call 60;refine(HKP.out _ (by exact HBB.out.drew)).mono ?_;rintro e w1 ⟨rfl,hb1'⟩;have hb1:=zD0 hb1';clear hb1'))
 have HB1:=zh (HBB.out.later hb1);obtain⟨x0,x1,x2,x3,x4⟩:=HS1.out _ hb1;have z1:=hb1.size;have zw:w.heap.size<w1.heap.size:=by have:=HX0.out.lt;omega
 have zw1:w.heap.size+1<w1.heap.size:=by have:=HX1.out.lt;omega
 have zr:rb<w1.heap.size:=by omega
 clear hb1;by_cases hv:v=⟨#[]⟩
 · have HE:Hid (R=[]):=by unfold Hid;rw[HR.out,if_pos hv]
   subst hv;go_wp2_with fail;go_ret;exact⟨_,rfl,by rw[HE.out];exact vH _ _ HB1.out.size,HB1.out.later (Below.new _ _)⟩
 · have HE:Hid (R=[⟨kind,gl,[iS,col,v,key],⟨#[]⟩⟩]):=by unfold Hid;rw[HR.out,if_neg hv]
   have hbe:=vE hv;have hbe3:=zAa (l:=[]) hv;have HCO:=zh (zX0 (d:=⟨kind,gl,[iS,col,v,key],⟨#[]⟩⟩) (zCm (w:=w1) (base:=w.heap.size) [iS,col,v,key] #[.string ⟨#[105]⟩,.string col,.string v,.string key] HB1.out.size (by simp) rfl) (by have:=HB1.out.size;simp;omega));clear hv;go_wp2_with fail;first | go_region | skip
   go_wp2_with fail;go_ret;refine⟨.slice (some ⟨w1.heap.size+1,0,none⟩) 1 1,rfl,?_,((HB1.out.later (Below.new _ _)).later (Below.new _ _)).drew⟩;rw[HE.out];have h:=HCO.out;simp only[World.size_alloc]at h;exact ChgsO.later ⟨_,h⟩ (Below.refl _ _).drew
theorem vY (F:ByteArray→List ChgD) (l:List ByteArray) (k:Nat) (h:k<l.length):(l.take (k+1)).flatMap F=(l.take k).flatMap F++F (l.getD k ByteArray.empty):=by
 rw[List.take_succ_eq_append_getElem h,List.flatMap_append,List.getD_eq_getElem?_getD,List.getElem?_eq_getElem h];simp
theorem zBu (F:ByteArray→List ChgD) (hF:∀c,(F c).length≤1):∀(l:List ByteArray),(l.flatMap F).length≤l.length
 | []=>by simp
 | x::t=>by have h1:=hF x;have h2:=zBu F hF t;rw[List.flatMap_cons,List.length_append,List.length_cons];omega
set_option maxRecDepth 100000 in
theorem zBV (b0 b1 b2 b3 r0:Value) (b:TableD) (r:List ByteArray) (w:World) (hb:TableR w w.heap.size b0 b1 b2 b3 b) (h:RowR w w.heap.size r0 r) (hsm:wL r) (hpos:0<r.length) (hcl:b.cols.length≤1048576) (hil:b.idx.length≤1000000) (hpl:∀c∈b.idx,0≤wA b.cols c∧(wA b.cols c).toNat<r.length) :
 Calls Tryz.prog 70 #[.agg #[b0,b1,b2,b3],.agg #[r0]] w (xN (xT b.glob r::yG 1 b r) w):=by
 obtain⟨i0,hi0,hz0,hz1,hz2⟩:=info_parts uT;have HKS:=zh (fun W (hW:Below w.heap.size w W)=>zEp b0 b1 b2 b3 r0 b r W (hb.later hW) (h.later hW) hsm hpos);have HKI:=zh (fun c (hc:c∈b.idx) W (hW:Below w.heap.size w W)=>zAM b0 b1 b2 b3 r0 b r c 1 W (hb.later hW) (h.later hW) hcl (hpl c hc).1 (hpl c hc).2);have HFL:=zh (zAz 1 b.glob b.cols r);have HR:Hid (yG 1 b r=b.idx.flatMap (zI0 1 b.glob b.cols r)):=rfl;obtain⟨rfl,rfl,⟨A2,n2,p2,rfl,s2,k2⟩,⟨A3,n3,p3,rfl,s3,k3⟩⟩:=hb;obtain⟨A,n,c,rfl,hs,hnc⟩:=h;have HSX:=zh s3;have HLI:=zh s3.1;have hn3:n3≤1000000:=by rw[←s3.1];exact hil
 clear s2 s3 hs hsm hpos hcl hil hpl;generalize yG 1 b r=IX at *;generalize zI0 1 b.glob b.cols r=F at *;generalize xT b.glob r=D at *;generalize b.idx=ids at *;generalize b.name=nm at *;generalize b.glob=gl at *;obtain⟨WB,hWB⟩:∃WB,WB=(w.alloc (.cells #[.string nm,.string gl,.slice A2 n2 p2,.slice A3 n3 p3] 29)).alloc (.cells #[.slice A n c] 31):=⟨_,rfl⟩;have HX0:Hid (Blk WB w.heap.size 29 #[.string nm,.string gl,.slice A2 n2 p2,.slice A3 n3 p3]):=by subst hWB;exact uC _ _ _
 have HX1:Hid (Blk WB (w.heap.size+1) 31 #[.slice A n c]):=by subst hWB;exact xB _ _ _
 have HBB:Hid (Below w.heap.size w WB):=by subst hWB;exact(Below.new _ _).later (Below.new _ _)
 have HS1:Hid (∀W',Below WB.heap.size WB W'→(W'.cell? ⟨w.heap.size,0,none⟩=some (.string nm)∧W'.cell? ⟨w.heap.size,1,none⟩=some (.string gl)∧W'.cell? ⟨w.heap.size,2,none⟩=some (.slice A2 n2 p2)∧W'.cell? ⟨w.heap.size,3,none⟩=some (.slice A3 n3 p3)∧W'.cell? ⟨w.heap.size+1,0,none⟩=some (.slice A n c))):=fun W' hW=>⟨(HX0.out.later hW HX0.out.lt).at 0 rfl,(HX0.out.later hW HX0.out.lt).at 1 rfl,(HX0.out.later hW HX0.out.lt).at 2 rfl,(HX0.out.later hW HX0.out.lt).at 3 rfl,(HX1.out.later hW HX1.out.lt).at 0 rfl⟩;obtain⟨y0,y1,y2,y3,y4⟩:=HS1.out _ (Below.refl _ _);have hwz:=HBB.out.size;have zw0:=HX0.out.lt;have zw1:=HX1.out.lt;go_enter Tryz.func70,Tryz.ntmps70;go_wp2_with fail;rw[←hWB];clear hWB;first | (refine(HKS.out _ HBB.out).mono ?_) | (go_wp2_with fail;refine(HKS.out _ HBB.out).mono ?_)
 rintro e w1 ⟨v1,rfl,hsub1,hb1⟩;obtain⟨A1,cap1,rfl,_,_,_⟩:=Own.own_slice hsub1;have HB1:=zh hb1;have HO1:=zh (zX0 hsub1 hb1.size);have hz1':=hb1.size;clear hb1 hsub1 y0 y1 y2 y3 y4 HKS;go_wp2_with fail;go_loopw [5,6] (fun v i wr=>∃(k:Nat),k≤n3∧i=.int .i64 k∧ChgsO wr WB.heap.size v (D::(ids.take k).flatMap F)∧Below WB.heap.size WB wr) (fun _ i _=>n3-(intOf i).toNat);case atStart=>exact⟨0,Nat.zero_le _,rfl,⟨_,HO1.out⟩,HB1.out.later (Below.new _ _)⟩
 case round =>
  obtain⟨k,hk,rfl,⟨vs,hown⟩,hb⟩:=hrel;have HB:=zh hb;have HO:=zh hown;obtain⟨x0,x1,x2,x3,x4⟩:=HS1.out _ hb;have HBw:=zh (HBB.out.later hb);have hwr:=hb.size;clear hb hown HO1 HB1;by_cases hlt:k<n3
  · obtain⟨ib,io,rfl,hib,hic⟩:=(HSX.out.later HBw.out).2 (by omega);have hik:=hic k hlt;have hl:k<ids.length:=by rw[HLI.out];exact hlt
    have HKc:=zh (HKI.out _ (vK ids k hl));have HST:=zh (vY F ids k hl);have HF1:=zh (HFL.out (ids.getD k ByteArray.empty));have HTL:Hid ((D::(ids.take k).flatMap F).length≤1000001):=by unfold Hid;have h1:=zBu F HFL.out (ids.take k);rw[List.length_take]at h1;rw[List.length_cons];omega
    clear hic hl;generalize ids.getD k ByteArray.empty=col at *;generalize hg:F col=gs at *;clear hg;generalize hfs:D::(ids.take k).flatMap F=fs at *;have HFS:=zh hfs;clear hfs;have hN:=HTL.out;generalize hNN:fs.length=N at *;have HN:=zh hNN;clear hNN;have hM:=HF1.out;go_wp2_with fail
    go_region_law (first
     | (refine uM _ (by rfl) _ _ _ (by rfl) WB.heap.size 88 i0 _ 4 64 Tryz.underlying34 hi0 hz0 hz1 hz2 rfl (by omega) u5 N (Own.flat uD fs vs) (by rfl) (by exact HRA.out)
         w4.heap.size A4 gs.length cap4 (Own.flat uD gs us) (by rfl) (by exact HRD.out) (by exact HONE.out)
         (by unfold maxLen;omega) (by omega) (by omega) ?_
        intro v5 w5 hown5 hgrow5 _;have HOW:=zh hown5;have HGR:=zh hgrow5
        clear hown5 hgrow5)
     | (go_simp
        go_at_call 61;refine(HKc.out _ (by exact HBw.out.drew)).mono ?_;rintro e w4 ⟨v4,rfl,⟨us,hown4⟩,hb4'⟩;have hb4:=zD0 hb4';obtain⟨A4,cap4,rfl,hcap4,_,_⟩:=Own.own_slice hown4.row;have HB4:=zh hb4;have hw4:=hb4.size;have HO4:Hid (Own.OwnL uD w4 wr.heap.size 88 (.slice A4 gs.length cap4) gs us):=hown4;have HRD:=zh (Reads.of_own hown4.row);have HONE:=zh (vL hown4);have HRA:Hid (w4.ownsRow WB.heap.size 88 4 u5 N (Own.flat uD fs vs)):=by have h:=(HO.out.later hb4).row;rw[HN.out]at h;exact h
        clear hb4 hb4' hown4))
    all_goals
     have HC5:Hid (ChgsO w5 WB.heap.size v5 (D::(ids.take (k+1)).flatMap F)):=by unfold Hid;rw[HST.out,←List.cons_append,HFS.out];exact zAC HO.out hwr HB4.out HO4.out (by rw[HN.out];exact HOW.out) HGR.out
     have HB5:Hid (Below WB.heap.size WB w5):=(HB.out.later HB4.out).grown HGR.out (by omega) (fun g hg=>(World.ownsRow.lt HRA.out g hg).1);clear x0 x1 x2 x3 x4;go_wp2_with fail;go_roundw;case rel=>exact⟨k+1,by omega,by go_num,HC5.out,HB5.out⟩
     case measure=>simp[intOf];omega
  · have HE:Hid (D::(ids.take k).flatMap F=D::IX):=by unfold Hid;rw[List.take_of_length_le (by rw[HLI.out];omega),HR.out]
    have HCE:Hid (ChgsO wr w.heap.size u5 (D::IX)):=by unfold Hid;rw[←HE.out];exact ChgsO.base ⟨vs,HO.out⟩ hwz
    go_wp2_with fail;go_ret;exact⟨_,rfl,HCE.out,HBw.out⟩
end Go.Proofs.YtgmaamnofhmecaaGreatDoor
namespace Go.Proofs.YtgmaamnofhmecaaGreatDoor
open Go.RowKit
theorem zBk {g:ByteArray} {fs:List NodeD}:∀d∈yA g fs,d.subs.length=2:=by
 intro d hd;unfold yA at hd;rw[List.mem_filter]at hd;have h1:=hd.2;unfold yI at h1;simp only[Bool.and_eq_true,decide_eq_true_eq]at h1;exact h1.2.1
theorem zEh {g:ByteArray} {fs:List NodeD} (h:wB fs):(yA g fs).length≤1048576:=Nat.le_trans (List.length_filter_le _ _) h.1
end Go.Proofs.YtgmaamnofhmecaaGreatDoor
