import Derived.Test.YtfpcjhajjejpdaaGreatDoorY18
import Derived.Deep.AppendLies
import Derived.Deep.RegionHeld3
import Derived.Deep.RegionLaw
set_option maxHeartbeats 40000000
open Go.Lib renaming hid → zh
namespace Go.Proofs.YtfpcjhajjejpdaaGreatDoor
open Go.RowKit
set_option linter.unusedVariables false
set_option maxRecDepth 100000 in
theorem zId (r0:Value) (r:List ByteArray) (w:World) (h:RowR w w.heap.size r0 r) (hsm:wH r) :
 Calls Tryz.prog 150 #[.agg #[r0]] w fun e w'=>e=.returned (.string (vK r))∧Below w.heap.size w w':=by
 obtain⟨A,n,c,rfl,hs,hnc⟩:=h;have hn:=hsm.1
 have HZ:Hid (∀k,(r.getD k ByteArray.empty).size≤1048576):=fun k=>by
  by_cases hk:k<r.length
  · exact hsm.2 _ (uD r k hk)
  · rw[List.getD_eq_getElem?_getD,List.getElem?_eq_none (by omega)];simp
 clear hsm;have Hs:=zh hs;have HL:=zh hs.1;rw[hs.1]at hn;have HN:Hid (vK (r.take 1)=⟨#[]⟩):=zMi (by rw[List.length_take];omega);have H2:Hid (1<n→vK (r.take 2)=r.getD 1 ByteArray.empty):=fun h=>zMh (by rw[HL.out];exact h);have HST:Hid (∀k,1<k→k<n→vK (r.take (k+1))=(vK (r.take k)++⟨#[94]⟩)++r.getD k ByteArray.empty):=fun k h1 h2=>zLh h1 (by rw[HL.out];exact h2);have HE:Hid (∀k,n≤k→vK (r.take k)=vK r):=fun k h=>by rw[List.take_of_length_le (by rw[HL.out];exact h)]
 clear hs;generalize vK r=R at *;go_enter Tryz.func150,Tryz.ntmps150;go_wp2_with fail;go_loopw [3,4] (fun o i wr=>∃(k:Nat),1≤k∧(k≤n∨k=1)∧i=.int .i64 k∧o=.string (vK (r.take k))∧Hid ((vK (r.take k)).size≤k*1048577)∧Below (w.heap.size+1) (w.alloc (.cells #[.slice A n c] 40)) wr) (fun _ i _=>n-(intOf i).toNat);case atStart=>exact⟨1,Nat.le_refl _,.inr rfl,rfl,by rw[HN.out],by unfold Hid;rw[HN.out];exact Nat.zero_le _,Below.refl _ _⟩
 case round =>
  obtain⟨k,hk1,hk,rfl,rfl,HSZ,hb⟩:=hrel;have p0:=(Blk.later (heap_alloc_new w _) hb (by omega)).cell 0;simp at p0;have hz0:w.heap.size<wr.heap.size:=by have:=hb.size;simp at this;omega
  have HB:=zh hb;have HBw:=zh ((Below.new _ _).trans (hb.mono (by omega)));clear hb;by_cases hlt:k<n
  · obtain⟨b,o,rfl,hbB,hc⟩:=(Hs.out.later HBw.out).2 (by omega);have hck:=hc k hlt;clear hc;by_cases h1:k=1
    · subst h1;have HP:=zh (H2.out hlt);have hsz1:=HZ.out 1;generalize r.getD 1 ByteArray.empty=s at *;rw[HN.out];go_wp2_with fail;go_roundw;case rel=>exact⟨2,by omega,.inl (by omega),by go_num,by rw[HP.out];congr 1;first | done | (apply ByteArray.ext;simp[ByteArray.data_append]),by unfold Hid;rw[HP.out];omega,HB.out⟩
      case measure=>simp[intOf];omega
    · have HP:=zh (HST.out k (by omega) hlt);have hk3:1<k:=by omega
      have hsz1:=HZ.out k;have HPS:Hid ((vK (r.take (k+1))).size=(vK (r.take k)).size+1+(r.getD k ByteArray.empty).size):=by unfold Hid;rw[HP.out,ByteArray.size_append,ByteArray.size_append];rfl
      have hz3:(vK (r.take k)).size≤1099512676352:=by have:=HSZ.out;omega
      generalize r.getD k ByteArray.empty=s at *;generalize vK (r.take k)=t at *;go_wp2_with fail;go_roundw;case rel=>exact⟨k+1,by omega,.inl (by omega),by go_num,by rw[HP.out],by have:=HSZ.out;unfold Hid;rw[HPS.out];omega,HB.out⟩
      case measure=>simp[intOf];omega
  · have HF:=zh (HE.out k (by omega));generalize vK (r.take k)=t at *;go_wp2_with fail;go_ret;exact⟨by rw[HF.out];rfl,HBw.out⟩
def zNv (d:ChgD) (w:World) (e:Ending) (w':World):Prop:=∃v,e=.returned (.agg #[.int .i64 d.kind,.string d.name,v,.string d.val])∧Own.SubO w' w.heap.size v d.subs∧Below w.heap.size w w'
theorem yW {Z:World} {bs g n:Nat} (ss:List ByteArray) (cs:Array Value) (hg:Z.heap.size=g) (hb:bs≤g) (hn:ss.length=n) (hm:n≤1048576) (h:cs=xY ss):Own.SubO (Z.alloc (.cells cs 9)) bs (.slice (some ⟨g,0,none⟩) n n) ss:=by
 subst hg hn;exact zKr ss cs hb hm h
theorem yY {w w':World} {bs:Nat} {v:Value} {ss:List ByteArray} (h:Own.SubO w bs v ss) (hb:Below w.heap.size w w'):Own.SubO w' bs v ss:=Own.own_later h hb
theorem zLV {w:World} {bs g t:Nat} {v:Value} {ss:List ByteArray} {a0 a1 a2 a3:Value} (h:Own.SubO w bs v ss) (hB:Blk w g t #[a0,a1,a2,a3]) (ht:9≠t) (x0 x1 x2 x3:Value):Own.SubO ((((w.setCell ⟨g,0,none⟩ x0).setCell ⟨g,1,none⟩ x1).setCell ⟨g,2,none⟩ x2).setCell ⟨g,3,none⟩ x3) bs v ss :=
 (((h.setBlk hB ht).setBlk (hB.set_ 0 x0) ht).setBlk ((hB.set_ 0 x0).set_ 1 x1) ht).setBlk (((hB.set_ 0 x0).set_ 1 x1).set_ 2 x2) ht
theorem zFB {a w:World} {B g:Nat} (h:Below B a w) (hg:B≤g) (x0 x1 x2 x3:Value):Below B a ((((w.setCell ⟨g,0,none⟩ x0).setCell ⟨g,1,none⟩ x1).setCell ⟨g,2,none⟩ x2).setCell ⟨g,3,none⟩ x3) :=
 (((h.setCell (p:=⟨g,0,none⟩) hg _).setCell (p:=⟨g,1,none⟩) hg _).setCell (p:=⟨g,2,none⟩) hg _).setCell (p:=⟨g,3,none⟩) hg _
set_option maxRecDepth 100000 in
theorem zJG (b0 b1 b2 b3 r0:Value) (b:TableD) (r:List ByteArray) (w:World) (hb:TableR w w.heap.size b0 b1 b2 b3 b) (h:RowR w w.heap.size r0 r) (hsm:wH r) (hpos:0<r.length) :
 Calls Tryz.prog 89 #[.agg #[b0,b1,b2,b3],.agg #[r0]] w (zNv (zEl b.glob r) w):=by
 have HKP:=zh (fun W (hW:Below w.heap.size w W)=>zId r0 r W (h.later hW) hsm);obtain⟨rfl,rfl,⟨A2,n2,p2,rfl,s2,k2⟩,⟨A3,n3,p3,rfl,s3,k3⟩⟩:=hb;obtain⟨A,n,c,rfl,hs,hnc⟩:=h;rw[hs.1]at hpos;obtain⟨rb,ro,rfl,hrb,hrc⟩:=hs.2 hpos;have hc0:=hrc 0 hpos;rw[Nat.add_zero]at hc0;have HR:Hid (zEl b.glob r=⟨1,b.glob,[rS,r.getD 0 ByteArray.empty],vK r⟩):=rfl;clear s2 s3 hs hrc hsm;generalize zEl b.glob r=R at *;generalize vK r=pk at *;generalize r.getD 0 ByteArray.empty=key at *;generalize b.name=nm at *;generalize b.glob=gl at *;obtain⟨WB,hWB⟩:∃WB,WB=((w.alloc (.cells #[.string nm,.string gl,.slice A2 n2 p2,.slice A3 n3 p3] 29)).alloc (.cells #[.slice (some ⟨rb,ro,none⟩) n c] 40)).alloc (.cells #[.int .i64 0,.string ⟨#[]⟩,.slice none 0 0,.string ⟨#[]⟩] 88):=⟨_,rfl⟩;have HB0:Hid (Below w.heap.size w WB):=by subst hWB;exact yG w _ _ _
 have HTT:Hid (Blk WB w.heap.size 29 #[.string nm,.string gl,.slice A2 n2 p2,.slice A3 n3 p3]):=by subst hWB;exact zK0 _ _ _ _
 have HRR:Hid (Blk WB (w.heap.size+1) 40 #[.slice (some ⟨rb,ro,none⟩) n c]):=by subst hWB;exact vG _ _ _ _
 have HYY:Hid (Blk WB (w.heap.size+1+1) 88 #[.int .i64 0,.string ⟨#[]⟩,.slice none 0 0,.string ⟨#[]⟩]):=by subst hWB;exact zG0 _ _ _ _
 have hrb3:rb<WB.heap.size:=Nat.lt_of_lt_of_le hrb HB0.out.size;have hk0:=(HB0.out.cell (p:=⟨rb,ro,none⟩) hrb).trans hc0;have q1:=HTT.out.cell 1;have q2:=HRR.out.cell 0;have a1:=(HTT.out.alloc (.cells #[.string ⟨#[114]⟩,.string key] 9)).cell 1;have a2:=(HRR.out.alloc (.cells #[.string ⟨#[114]⟩,.string key] 9)).cell 0;have a3:=(World.cell?_alloc_some _ _ (.cells #[.string ⟨#[114]⟩,.string key] 9) (by rw[hk0];rfl)).trans hk0;have hwb:=HB0.out.size;have hwy:=HYY.out.lt;have hne1:w.heap.size+1+1≠rb:=by omega
 have hne0:w.heap.size+1+1≠w.heap.size:=by omega
 have hne2:w.heap.size+1+1≠w.heap.size+1:=by omega
 simp at q1 q2 a1 a2;clear hc0;go_enter Tryz.func89,Tryz.ntmps89;go_wp2_with fail;rw[←hWB];clear hWB
 go_region_held3 (fun w'=>w'.cell? ⟨w.heap.size,1,none⟩=some (.string gl)∧w'.cell? ⟨w.heap.size+1,0,none⟩=some (.slice (some ⟨rb,ro,none⟩) n c)∧w'.cell? ⟨rb,ro,none⟩=some (.string key))
  (first | with_reducible exact⟨q1,q2,hk0⟩ | with_reducible exact⟨a1,a2,a3⟩ | with_reducible exact⟨t1,t0,tk⟩ | go_keep) (first
    | (go_at_call 150
       with_reducible refine(HKP.out WB.drew ?_).mono ?_
       · exact HB0.out.drew
       rintro e w4 ⟨rfl,hb4'⟩;have hbW:=wD hb4';have HARM:Hid (w4=w4):=rfl;have HY4:=zh (HYY.out.later hbW HYY.out.lt);have ht4:=HTT.out.later hbW HTT.out.lt;have hr4:=HRR.out.later hbW HRR.out.lt;have t1:=ht4.cell 1;have t0:=hr4.cell 0;have tz:=ht4.lt;have rz:=hr4.lt;have tk:=(hbW.cell (p:=⟨rb,ro,none⟩) hrb3).trans hk0;have y0:=HY4.out.cell 0;have y1:=HY4.out.cell 1;have y2:=HY4.out.cell 2;have y3:=HY4.out.cell 3;have f0:=HY4.out.frozen 0;have f1:=HY4.out.frozen 1;have f2:=HY4.out.frozen 2;have f3:=HY4.out.frozen 3;have z4:=HY4.out.lt;simp at t1 t0 y0 y1 y2 y3;have rz4:rb<w4.heap.size:=Nat.lt_of_lt_of_le hrb3 hbW.size;have HBX:=zh (HB0.out.later hbW);have hwz:=HBX.out.size
       clear hbW hb4' ht4 hr4)
    | (go_at_call 150
       with_reducible refine(HKP.out (WB.alloc (.cells #[.string ⟨#[114]⟩,.string key] 9)).drew ?_).mono ?_
       · exact(HB0.out.later (Below.new _ _)).drew
       rintro e w4 ⟨rfl,hb4'⟩;have hb4:=wD hb4';have hbW:=(Below.new WB (.cells #[.string ⟨#[114]⟩,.string key] 9)).later hb4;have HSX:Hid (Own.SubO w4 w.heap.size (.slice (some ⟨WB.heap.size,0,none⟩) 2 2) [rS,key]):=yY (yW [rS,key] _ rfl hwb rfl (by decide) rfl) hb4;have HY4:=zh (HYY.out.later hbW HYY.out.lt);have ht4:=HTT.out.later hbW HTT.out.lt;have hr4:=HRR.out.later hbW HRR.out.lt;have t1:=ht4.cell 1;have t0:=hr4.cell 0;have tz:=ht4.lt;have rz:=hr4.lt;have tk:=(hbW.cell (p:=⟨rb,ro,none⟩) hrb3).trans hk0;have y0:=HY4.out.cell 0;have y1:=HY4.out.cell 1;have y2:=HY4.out.cell 2;have y3:=HY4.out.cell 3;have f0:=HY4.out.frozen 0;have f1:=HY4.out.frozen 1;have f2:=HY4.out.frozen 2;have f3:=HY4.out.frozen 3;have z4:=HY4.out.lt;simp at t1 t0 y0 y1 y2 y3;have rz4:rb<w4.heap.size:=Nat.lt_of_lt_of_le hrb3 hbW.size;have HBX:=zh (HB0.out.later hbW);have hwz:=HBX.out.size
       clear hbW hb4 hb4' ht4 hr4))
 all_goals
  go_wp2_with fail;refine bodyPost_ret (v:=.agg #[.int .i64 1,.string gl,.slice (some ⟨_,0,none⟩) 2 2,.string pk]) (by simp[results,Tryz.results89,go_sem,World.cell?_alloc_lt,z4,y0,y1,y2,y3];try exact rfl) rfl ?_;refine⟨_,by rw[HR.out],?_,?_⟩
  · rw[HR.out]
    first
      | (have:=HARM.out
         exact yW [rS,key] _ (by simp) hwz rfl (by decide) rfl)
      | exact zLV HSX.out HY4.out (by decide) _ _ _ _
  · first
      | (have:=HARM.out
         exact(zFB HBX.out (by omega) _ _ _ _).later (Below.new _ _))
      | exact zFB HBX.out (by omega) _ _ _ _
end Go.Proofs.YtfpcjhajjejpdaaGreatDoor
namespace Go.Proofs.YtfpcjhajjejpdaaGreatDoor
open Go.RowKit
set_option linter.unusedVariables false
theorem Drawn.set {p K:Nat} {a b:World} (h:Drawn p K a b) {g:Nat} (hg:a.heap.size≤g) (hp:p<a.heap.size) (i:Nat) (u:Value):Drawn p K a (b.setCell ⟨g,i,none⟩ u) :=
 h.grown (Own.grown_set b g i u) (fun g' e=>by cases e;exact hg) hp
theorem Drawn.own {p K:Nat} {a b c:World} {P:Nat→Prop} (h:Drawn p K a b) (k:Own.Chg P b c) (hP:∀g,P g→a.heap.size≤g) (hp:p<a.heap.size):Drawn p K a c :=
 ⟨h.src.chg k (fun g hg=>Nat.lt_of_lt_of_le hp (hP g hg)),h.chg.fresh k hP⟩
theorem zKy {w:World} {base e size n t:Nat} {v:Value} {xs:List Value} {P:Nat→Prop} (h:w.ownsRow base e size v n xs) (hne:e≠t) (hB:∀g,P g→∃cs,Blk w g t cs):Own.inP (fun g=>¬P g) v:=fun g hg hp=>by
 obtain⟨cs,hb⟩:=hB g hp;exact Own.own_blk_ne h hb hne hg
theorem zLB {P:Nat→Prop} {a b:World} (h:Own.Chg P a b) (o:Obj):Own.Chg P a (b.alloc o):=h.trans (Own.Chg.of_below (Below.new b o))
theorem yR {P:Nat→Prop} {a b:World} {g i:Nat} {u:Value} (h:Own.Chg P a b) (hg:P g):Own.Chg P a (b.setCell ⟨g,i,none⟩ u):=h.set hg i u
def zIP (p K m:Nat) (w:World) (e:Ending) (w':World):Prop:=∃s:ByteArray,e=.returned (.string s)∧s.size≤m∧Drawn p K w w'
set_option maxRecDepth 100000 in
theorem zJJ (p K:Nat) (w:World) (h:SrcR w p K) (hK:K≤549755813888) :
 Calls Tryz.prog 195 #[.pointer (some ⟨p,0,none⟩)] w (zIP p (K+2) 16 w):=by
 have HK1:=zh (zH0 p K (some ⟨w.heap.size,0,none⟩) 6 6 [⟨#[49]⟩,⟨#[50]⟩,⟨#[49,48]⟩,⟨#[120]⟩,⟨#[45,51]⟩,⟨#[98]⟩] (w.alloc (.cells #[.string ⟨#[49]⟩,.string ⟨#[50]⟩,.string ⟨#[49,48]⟩,.string ⟨#[120]⟩,.string ⟨#[45,51]⟩,.string ⟨#[98]⟩] 9)) (h.later (Below.new _ _)) (by omega) (vH w _ [⟨#[49]⟩,⟨#[50]⟩,⟨#[49,48]⟩,⟨#[120]⟩,⟨#[45,51]⟩,⟨#[98]⟩] _ rfl) (by omega) (by omega));clear h;go_enter Tryz.func195,Tryz.ntmps195;go_wp2_with fail;refine HK1.out.mono ?_;rintro e w1 ⟨s,hs,rfl,hd⟩;have hsz:s.size≤16:=(by decide:∀s∈([⟨#[49]⟩,⟨#[50]⟩,⟨#[49,48]⟩,⟨#[120]⟩,⟨#[45,51]⟩,⟨#[98]⟩]:List ByteArray),s.size≤16) s hs;have HD:=zh (hd.pre (Below.new _ _));clear hd hs HK1;go_wp2_with fail;go_ret;exact⟨s,rfl,hsz,HD.out⟩
set_option maxRecDepth 100000 in
theorem zJH (p K:Nat) (w:World) (h:SrcR w p K) (hK:K≤549755813888) :
 Calls Tryz.prog 188 #[.pointer (some ⟨p,0,none⟩)] w (zIP p (K+2) 16 w):=by
 have HK1:=zh (zH0 p K (some ⟨w.heap.size,0,none⟩) 6 6 [⟨#[49]⟩,⟨#[50]⟩,⟨#[49,48]⟩,⟨#[97]⟩,⟨#[51]⟩,⟨#[98,55]⟩] (w.alloc (.cells #[.string ⟨#[49]⟩,.string ⟨#[50]⟩,.string ⟨#[49,48]⟩,.string ⟨#[97]⟩,.string ⟨#[51]⟩,.string ⟨#[98,55]⟩] 9)) (h.later (Below.new _ _)) (by omega) (vH w _ [⟨#[49]⟩,⟨#[50]⟩,⟨#[49,48]⟩,⟨#[97]⟩,⟨#[51]⟩,⟨#[98,55]⟩] _ rfl) (by omega) (by omega));clear h;go_enter Tryz.func188,Tryz.ntmps188;go_wp2_with fail;refine HK1.out.mono ?_;rintro e w1 ⟨s,hs,rfl,hd⟩;have hsz:s.size≤16:=(by decide:∀s∈([⟨#[49]⟩,⟨#[50]⟩,⟨#[49,48]⟩,⟨#[97]⟩,⟨#[51]⟩,⟨#[98,55]⟩]:List ByteArray),s.size≤16) s hs;have HD:=zh (hd.pre (Below.new _ _));clear hd hs HK1;go_wp2_with fail;go_ret;exact⟨s,rfl,hsz,HD.out⟩
structure TabO (w:World) (base:Nat) (c0 c1 c2 c3:Value) (d:TableD):Prop where
 nm:c0=.string d.name
 gl:c1=.string d.glob
 cols:Own.SubO w base c2 d.cols
 idx:Own.SubO w base c3 d.idx
 ap:Own.apart c2 c3
section
variable {w w':World} {bs bs' p K K':Nat} {c0 c1 c2 c3:Value} {d:TableD}
theorem TabO.later (h:TabO w bs c0 c1 c2 c3 d) (hb:Below w.heap.size w w'):TabO w' bs c0 c1 c2 c3 d:=⟨h.nm,h.gl,Own.own_later h.cols hb,Own.own_later h.idx hb,h.ap⟩
theorem TabO.base (h:TabO w bs' c0 c1 c2 c3 d) (hb:bs≤bs'):TabO w bs c0 c1 c2 c3 d:=⟨h.nm,h.gl,Own.own_base h.cols hb,Own.own_base h.idx hb,h.ap⟩
theorem TabO.drawn (h:TabO w bs c0 c1 c2 c3 d) (hs:SrcR w p K) (hd:Drawn p K' w w'):TabO w' bs c0 c1 c2 c3 d:=⟨h.nm,h.gl,SubO.drawn h.cols hs hd,SubO.drawn h.idx hs hd,h.ap⟩
theorem TabO.reads (h:TabO w bs c0 c1 c2 c3 d):TableR w w.heap.size c0 c1 c2 c3 d:=by
 obtain⟨A2,p2,e2,k2,s2⟩:=h.cols.strs;obtain⟨A3,p3,e3,k3,s3⟩:=h.idx.strs;exact⟨h.nm,h.gl,⟨A2,_,p2,e2,s2,k2⟩,⟨A3,_,p3,e3,s3,k3⟩⟩
end
def zHC (m:Nat) (d:TableD):Prop:=d.name.size≤16∧d.glob.size≤16∧(d.cols.length≤m∧∀s∈d.cols,s.size≤16)∧(d.idx.length≤m∧∀s∈d.idx,s.size≤16)
theorem zBO {m:Nat} {d:TableD} (h:zHC m d) (hm:m≤1000):d.small :=
 ⟨Nat.le_trans h.1 (by decide),Nat.le_trans h.2.1 (by decide),⟨Nat.le_trans (Nat.le_trans h.2.2.1.1 hm) (by decide),fun s hs=>Nat.le_trans (h.2.2.1.2 s hs) (by decide)⟩,⟨Nat.le_trans (Nat.le_trans h.2.2.2.1 hm) (by decide),fun s hs=>Nat.le_trans (h.2.2.2.2 s hs) (by decide)⟩⟩
def zNr (p K m:Nat) (w:World) (e:Ending) (w':World):Prop:=∃c0 c1 c2 c3 d,e=.returned (.agg #[c0,c1,c2,c3])∧TabO w' w.heap.size c0 c1 c2 c3 d∧zHC m d∧Drawn p K w w'
set_option maxRecDepth 100000 in
theorem zHa (p K:Nat) (w:World) (h:SrcR w p K) (hK:K≤549755813888) :
 Calls Tryz.prog 38 #[.pointer (some ⟨p,0,none⟩)] w (zNr p (K+2) 4 w):=by
 have hpw:=h.lt;obtain⟨WB,hWB⟩:∃WB,WB=(((w.alloc (.cells #[.string ⟨#[]⟩,.string ⟨#[]⟩,.slice none 0 0,.slice none 0 0] 29)).alloc (.cells #[.string ⟨#[105,100]⟩,.string ⟨#[110,97,109,101]⟩,.string ⟨#[98,101,100]⟩,.string ⟨#[100,114]⟩] 9)).alloc (.cells #[.string ⟨#[110,97,109,101]⟩] 9)).alloc (.cells #[.string ⟨#[87,65,82,68]⟩,.string ⟨#[87]⟩,.slice (some ⟨w.heap.size+1,0,none⟩) 4 4,.slice (some ⟨w.heap.size+1+1,0,none⟩) 1 1] 29):=⟨_,rfl⟩;have HBB:Hid (Below w.heap.size w WB):=by subst hWB;exact uR w (.cells #[.string ⟨#[]⟩,.string ⟨#[]⟩,.slice none 0 0,.slice none 0 0] 29) (.cells #[.string ⟨#[105,100]⟩,.string ⟨#[110,97,109,101]⟩,.string ⟨#[98,101,100]⟩,.string ⟨#[100,114]⟩] 9) (.cells #[.string ⟨#[110,97,109,101]⟩] 9) (.cells #[.string ⟨#[87,65,82,68]⟩,.string ⟨#[87]⟩,.slice (some ⟨w.heap.size+1,0,none⟩) 4 4,.slice (some ⟨w.heap.size+1+1,0,none⟩) 1 1] 29)
 have HR0:Hid (Blk WB w.heap.size 29 #[.string ⟨#[]⟩,.string ⟨#[]⟩,.slice none 0 0,.slice none 0 0]):=by subst hWB;exact wZ w (.cells #[.string ⟨#[]⟩,.string ⟨#[]⟩,.slice none 0 0,.slice none 0 0] 29) (.cells #[.string ⟨#[105,100]⟩,.string ⟨#[110,97,109,101]⟩,.string ⟨#[98,101,100]⟩,.string ⟨#[100,114]⟩] 9) (.cells #[.string ⟨#[110,97,109,101]⟩] 9) (.cells #[.string ⟨#[87,65,82,68]⟩,.string ⟨#[87]⟩,.slice (some ⟨w.heap.size+1,0,none⟩) 4 4,.slice (some ⟨w.heap.size+1+1,0,none⟩) 1 1] 29)
 have HB0:Hid (Blk WB (w.heap.size+1+1+1) 29 #[.string ⟨#[87,65,82,68]⟩,.string ⟨#[87]⟩,.slice (some ⟨w.heap.size+1,0,none⟩) 4 4,.slice (some ⟨w.heap.size+1+1,0,none⟩) 1 1]):=by subst hWB;exact zZ0 w (.cells #[.string ⟨#[]⟩,.string ⟨#[]⟩,.slice none 0 0,.slice none 0 0] 29) (.cells #[.string ⟨#[105,100]⟩,.string ⟨#[110,97,109,101]⟩,.string ⟨#[98,101,100]⟩,.string ⟨#[100,114]⟩] 9) (.cells #[.string ⟨#[110,97,109,101]⟩] 9) (.cells #[.string ⟨#[87,65,82,68]⟩,.string ⟨#[87]⟩,.slice (some ⟨w.heap.size+1,0,none⟩) 4 4,.slice (some ⟨w.heap.size+1+1,0,none⟩) 1 1] 29)
 have HC0:Hid (Own.SubO WB w.heap.size (.slice (some ⟨w.heap.size+1,0,none⟩) 4 4) [⟨#[105,100]⟩,⟨#[110,97,109,101]⟩,⟨#[98,101,100]⟩,⟨#[100,114]⟩]):=by subst hWB;exact Own.sub_of_blk (ss:=[⟨#[105,100]⟩,⟨#[110,97,109,101]⟩,⟨#[98,101,100]⟩,⟨#[100,114]⟩]) (xZ w (.cells #[.string ⟨#[]⟩,.string ⟨#[]⟩,.slice none 0 0,.slice none 0 0] 29) (.cells #[.string ⟨#[105,100]⟩,.string ⟨#[110,97,109,101]⟩,.string ⟨#[98,101,100]⟩,.string ⟨#[100,114]⟩] 9) (.cells #[.string ⟨#[110,97,109,101]⟩] 9) (.cells #[.string ⟨#[87,65,82,68]⟩,.string ⟨#[87]⟩,.slice (some ⟨w.heap.size+1,0,none⟩) 4 4,.slice (some ⟨w.heap.size+1+1,0,none⟩) 1 1] 29)) (by omega) (by simp[maxLen])
 have HI0:Hid (Own.SubO WB w.heap.size (.slice (some ⟨w.heap.size+1+1,0,none⟩) 1 1) [⟨#[110,97,109,101]⟩]):=by subst hWB;exact Own.sub_of_blk (ss:=[⟨#[110,97,109,101]⟩]) (yZ w (.cells #[.string ⟨#[]⟩,.string ⟨#[]⟩,.slice none 0 0,.slice none 0 0] 29) (.cells #[.string ⟨#[105,100]⟩,.string ⟨#[110,97,109,101]⟩,.string ⟨#[98,101,100]⟩,.string ⟨#[100,114]⟩] 9) (.cells #[.string ⟨#[110,97,109,101]⟩] 9) (.cells #[.string ⟨#[87,65,82,68]⟩,.string ⟨#[87]⟩,.slice (some ⟨w.heap.size+1,0,none⟩) 4 4,.slice (some ⟨w.heap.size+1+1,0,none⟩) 1 1] 29)) (by omega) (by simp[maxLen])
 have HS0:=zh (h.later HBB.out);have HK1:=zh (xG p K 4 WB HS0.out (by omega) (by omega));clear h;go_enter Tryz.func38,Tryz.ntmps38;go_wp2_with fail;rw[←hWB];clear hWB;refine HK1.out.mono ?_;rintro e w1 ⟨x,rfl,hx,hd⟩;have HD1:=zh (hd.pre HBB.out);have HR1:=zh (Blk.drawn HR0.out hd (by omega));have HB1:=zh (Blk.drawn HB0.out hd (by omega));have HC1:=zh (SubO.drawn HC0.out HS0.out hd);have HI1:=zh (SubO.drawn HI0.out HS0.out hd);clear hd HR0 HB0 HC0 HI0 HS0 HK1 HBB;have hz:=HB1.out.lt;have hz0:=HR1.out.lt;have b0:=HB1.out.cell 0;have b1:=HB1.out.cell 1;have b2:=HB1.out.cell 2;have b3:=HB1.out.cell 3;have r0:=HR1.out.cell 0;have r1:=HR1.out.cell 1;have r2:=HR1.out.cell 2;have r3:=HR1.out.cell 3;have f2:=HB1.out.frozen 2;have f3:=HB1.out.frozen 3;have g0:=HR1.out.frozen 0;have g1:=HR1.out.frozen 1;have g2:=HR1.out.frozen 2;have g3:=HR1.out.frozen 3;simp at b0 b1 b2 b3 r0 r1 r2 r3;have hx4:x≤3:=by omega
 clear hx;have hbr:w.heap.size+1+1+1≠w.heap.size:=by omega
 have hz':w.heap.size+1+1+1<w1.heap.size+1:=by omega
 have hz0':w.heap.size<w1.heap.size+1:=by omega
 have hw1:=HD1.out.chg.size
 have HCX:∀Y,Own.Chg (fun g=>g=w.heap.size∨g=w.heap.size+1+1+1) w1 Y→Drawn p (K+2) w Y∧Own.SubO Y w.heap.size (.slice (some ⟨w.heap.size+1,0,none⟩) 4 4) [⟨#[105,100]⟩,⟨#[110,97,109,101]⟩,⟨#[98,101,100]⟩,⟨#[100,114]⟩]∧Own.SubO Y w.heap.size (.slice (some ⟨w.heap.size+1+1,0,none⟩) 1 1) [⟨#[110,97,109,101]⟩]:=fun Y hY=>by
  have hB:∀g,(g=w.heap.size∨g=w.heap.size+1+1+1)→∃cs,Blk w1 g 29 cs:=fun g hg=>by
   rcases hg with rfl | rfl
   · exact⟨_,HR1.out⟩
   · exact⟨_,HB1.out⟩
  exact⟨HD1.out.own hY (fun g hg=>by rcases hg with rfl | rfl <;> omega) hpw,Own.own_chg HC1.out hY (zKy HC1.out (by decide) hB),Own.own_chg HI1.out hY (zKy HI1.out (by decide) hB)⟩
 have HCX:=zh HCX;rcases (by omega:x=0∨x=1∨x=2∨x=3) with rfl | rfl | rfl | rfl
 · go_wp2_with fail;refine bodyPost_ret (v:=.agg #[.string ⟨#[87,65,82,68]⟩,.string ⟨#[87]⟩,.slice (some ⟨w.heap.size+1,0,none⟩) 4 4,.slice (some ⟨w1.heap.size,0,none⟩) 2 2]) (by simp[results,Tryz.results38,go_sem,World.cell?_alloc_lt,hz0,r0,r1,r2,r3]) rfl ?_;refine⟨_,_,_,_,⟨⟨#[87,65,82,68]⟩,⟨#[87]⟩,[⟨#[105,100]⟩,⟨#[110,97,109,101]⟩,⟨#[98,101,100]⟩,⟨#[100,114]⟩],[⟨#[98,101,100]⟩,⟨#[100,114]⟩]⟩,rfl,⟨rfl,rfl,?_,?_,.inr (by simp[Value.ownBlock];try omega)⟩,⟨by decide,by decide,⟨by decide,by decide⟩,⟨by decide,by decide⟩⟩,?_⟩
   · exact(HCX.out _ (zLB (yR (yR (yR (yR (yR (Own.Chg.refl _ _) (.inr rfl)) (.inl rfl)) (.inl rfl)) (.inl rfl)) (.inl rfl)) _)).2.1
   · exact(yW [⟨#[98,101,100]⟩,⟨#[100,114]⟩] _ (by simp) (by omega) rfl (by decide) rfl)
   · exact(HCX.out _ (zLB (yR (yR (yR (yR (yR (Own.Chg.refl _ _) (.inr rfl)) (.inl rfl)) (.inl rfl)) (.inl rfl)) (.inl rfl)) _)).1
 · go_wp2_with fail;refine bodyPost_ret (v:=.agg #[.string ⟨#[87,65,82,68]⟩,.string ⟨#[87]⟩,.slice (some ⟨w1.heap.size,0,none⟩) 1 1,.slice (some ⟨w1.heap.size+1,0,none⟩) 0 0]) (by simp[results,Tryz.results38,go_sem,World.cell?_alloc_lt,hz0,hz0',r0,r1,r2,r3]) rfl ?_;refine⟨_,_,_,_,⟨⟨#[87,65,82,68]⟩,⟨#[87]⟩,[⟨#[105,100]⟩],[]⟩,rfl,⟨rfl,rfl,?_,?_,.inr (by simp[Value.ownBlock];try omega)⟩,⟨by decide,by decide,⟨by decide,by decide⟩,⟨by decide,by decide⟩⟩,?_⟩
   · refine yY ?_ (Below.new _ _);exact((yW [⟨#[105,100]⟩] _ (by simp) (by omega) rfl (by decide) rfl))
   · exact(yW [] _ (by simp) (by omega) rfl (by decide) rfl)
   · exact(HCX.out _ (zLB (zLB (yR (yR (yR (yR (yR (yR (Own.Chg.refl _ _) (.inr rfl)) (.inr rfl)) (.inl rfl)) (.inl rfl)) (.inl rfl)) (.inl rfl)) _) _)).1
 · go_wp2_with fail;refine bodyPost_ret (v:=.agg #[.string ⟨#[87,65,82,68]⟩,.string ⟨#[87]⟩,.slice (some ⟨w1.heap.size,0,none⟩) 2 2,.slice (some ⟨w1.heap.size+1,0,none⟩) 1 1]) (by simp[results,Tryz.results38,go_sem,World.cell?_alloc_lt,hz0,hz0',r0,r1,r2,r3]) rfl ?_;refine⟨_,_,_,_,⟨⟨#[87,65,82,68]⟩,⟨#[87]⟩,[⟨#[105,100]⟩,⟨#[110,97,109,101]⟩],[⟨#[110,97,109,101]⟩]⟩,rfl,⟨rfl,rfl,?_,?_,.inr (by simp[Value.ownBlock];try omega)⟩,⟨by decide,by decide,⟨by decide,by decide⟩,⟨by decide,by decide⟩⟩,?_⟩
   · refine yY ?_ (Below.new _ _);exact((yW [⟨#[105,100]⟩,⟨#[110,97,109,101]⟩] _ (by simp) (by omega) rfl (by decide) rfl))
   · exact(yW [⟨#[110,97,109,101]⟩] _ (by simp) (by omega) rfl (by decide) rfl)
   · exact(HCX.out _ (zLB (zLB (yR (yR (yR (yR (yR (yR (Own.Chg.refl _ _) (.inr rfl)) (.inr rfl)) (.inl rfl)) (.inl rfl)) (.inl rfl)) (.inl rfl)) _) _)).1
 · go_wp2_with fail;refine bodyPost_ret (v:=.agg #[.string ⟨#[87,65,82,68]⟩,.string ⟨#[87]⟩,.slice (some ⟨w.heap.size+1,0,none⟩) 4 4,.slice (some ⟨w.heap.size+1+1,0,none⟩) 1 1]) (by simp[results,Tryz.results38,go_sem,r0,r1,r2,r3]) rfl ?_;refine⟨_,_,_,_,⟨⟨#[87,65,82,68]⟩,⟨#[87]⟩,[⟨#[105,100]⟩,⟨#[110,97,109,101]⟩,⟨#[98,101,100]⟩,⟨#[100,114]⟩],[⟨#[110,97,109,101]⟩]⟩,rfl,⟨rfl,rfl,?_,?_,.inr (by simp[Value.ownBlock];try omega)⟩,⟨by decide,by decide,⟨by decide,by decide⟩,⟨by decide,by decide⟩⟩,?_⟩
   · exact(HCX.out _ (yR (yR (yR (yR (Own.Chg.refl _ _) (.inl rfl)) (.inl rfl)) (.inl rfl)) (.inl rfl))).2.1
   · exact(HCX.out _ (yR (yR (yR (yR (Own.Chg.refl _ _) (.inl rfl)) (.inl rfl)) (.inl rfl)) (.inl rfl))).2.2
   · exact(HCX.out _ (yR (yR (yR (yR (Own.Chg.refl _ _) (.inl rfl)) (.inl rfl)) (.inl rfl)) (.inl rfl))).1
end Go.Proofs.YtfpcjhajjejpdaaGreatDoor
namespace Go.Proofs.YtfpcjhajjejpdaaGreatDoor
open Go.RowKit
set_option linter.unusedVariables false
def zNs (p K m:Nat) (w:World) (e:Ending) (w':World):Prop:=∃v ss,e=.returned (.agg #[v])∧Own.SubO w' w.heap.size v ss∧0<ss.length∧ss.length≤m∧(∀s∈ss,s.size≤16)∧Drawn p K w w'
theorem zMK {w5:World} {bs n cap gg:Nat} {ss:List ByteArray} {t:ByteArray} (hrow:w5.ownsRow bs 9 1 (.slice (some ⟨gg,0,none⟩) n cap) n (ss.map Value.string++[.string t])) (hn:n=ss.length+1):Own.SubO w5 bs (.slice (some ⟨gg,0,none⟩) n cap) (ss++[t]):=by
 subst hn;unfold Own.SubO;rw[List.length_append,List.map_append];exact hrow
theorem zLX {w5:World} {bs n:Nat} {v:Value} {ss:List ByteArray} {t:ByteArray} (hrow:w5.ownsRow bs 9 1 v (n+1) (ss.map Value.string++[.string t])) (hn:n=ss.length):Own.SubO w5 bs v (ss++[t]):=by
 subst hn;unfold Own.SubO;rw[List.length_append,List.map_append];exact hrow
theorem zKN {ss:List ByteArray} {t:ByteArray} {m:Nat} (h:∀s∈ss,s.size≤m) (ht:t.size≤m):∀s∈ss++[t],s.size≤m:=fun s hs=>by
 rcases List.mem_append.1 hs with h1 | h1
 · exact h s h1
 · rw[List.mem_singleton.1 h1];exact ht
set_option maxRecDepth 100000 in
theorem zEY (p K:Nat) (b0 b1 b2 b3:Value) (d:TableD) (w:World) (h:SrcR w p K) (hb:TableR w w.heap.size b0 b1 b2 b3 d) (hc6:d.cols.length≤6) (hK:K≤274877906944) :
 Calls Tryz.prog 141 #[.pointer (some ⟨p,0,none⟩),.agg #[b0,b1,b2,b3]] w (zNs p (K+16) 6 w):=by
 obtain⟨i0,hi,hz0,hz1,hz2⟩:=info_parts zAO;have hpw:=h.lt;obtain⟨rfl,rfl,⟨A2,n2,p2,rfl,s2,k2⟩,⟨A3,n3,p3,rfl,s3,k3⟩⟩:=hb;have hn2:n2≤6:=by rw[←s2.1];exact hc6
 clear s2 s3 hc6;generalize d.name=nm at *;generalize d.glob=gl at *;obtain⟨WB,hWB⟩:∃WB,WB=(w.alloc (.cells #[.string nm,.string gl,.slice A2 n2 p2,.slice A3 n3 p3] 29)).alloc (.cells #[.slice none 0 0] 40):=⟨_,rfl⟩;have HBB:Hid (Below w.heap.size w WB):=by subst hWB;exact(Below.new _ _).later (Below.new _ _)
 have HT0:Hid (Blk WB w.heap.size 29 #[.string nm,.string gl,.slice A2 n2 p2,.slice A3 n3 p3]):=by subst hWB;exact yC _ _ _
 have HR0:Hid (Blk WB (w.heap.size+1) 40 #[.slice none 0 0]):=by subst hWB;exact vB _ _ _
 have HK1:=zh (zJH p K WB (h.later HBB.out) (by omega));have hwb:=HR0.out.lt;clear h;go_enter Tryz.func141,Tryz.ntmps141;go_wp2_with fail;rw[←hWB];clear hWB;refine HK1.out.mono ?_;rintro e w1 ⟨t,rfl,ht,hd⟩;have HTS:=zh ht;have HD1:=zh (hd.pre HBB.out);have HT1:=zh (Blk.drawn HT0.out hd (by omega));have HR1:=zh (Blk.drawn HR0.out hd (by omega));have hw1:w.heap.size+1<w1.heap.size:=Nat.lt_of_lt_of_le hwb hd.chg.size;clear hd ht HT0 HR0 HK1 HBB hwb;obtain⟨WX,hWX⟩:∃WX,WX=(w1.alloc (.cells #[.string t] 9)).alloc (.cells #[.slice (some ⟨w1.heap.size,0,none⟩) 1 1] 40):=⟨_,rfl⟩;have HBX:Hid (Below w1.heap.size w1 WX):=by subst hWX;exact(Below.new _ _).later (Below.new _ _)
 have HQ2:Hid (Blk WX (w1.heap.size+1) 40 #[.slice (some ⟨w1.heap.size,0,none⟩) 1 1]):=by subst hWX;exact vB _ _ _
 have HS2:Hid (Own.SubO WX w.heap.size (.slice (some ⟨w1.heap.size,0,none⟩) 1 1) [t]):=by subst hWX;exact yY (yW [t] _ rfl (by omega) rfl (by decide) rfl) (Below.new _ _)
 have HR2:=zh (HR1.out.later HBX.out HR1.out.lt);have HT2:=zh (HT1.out.later HBX.out HT1.out.lt);have HD2:=zh (HD1.out.later HBX.out);clear HBX HR1 HT1 HD1;go_wp2_with fail;rw[←hWX];clear hWX;go_loopw [6] (fun i wr=>∃(k:Nat) (v:Value) (ss:List ByteArray),i=.int .i64 k∧1≤k∧(k≤n2∨k=1)∧Hid (Blk wr (w1.heap.size+1) 40 #[v])∧Hid (Blk wr w.heap.size 29 #[.string nm,.string gl,.slice A2 n2 p2,.slice A3 n3 p3])∧Hid (Blk wr (w.heap.size+1) 40 #[.slice none 0 0])∧Hid (Own.SubO wr w.heap.size v ss)∧Hid (ss.length=k)∧Hid (∀s∈ss,s.size≤16)∧Hid (Drawn p (K+2+2*k) w wr)) (fun i _=>n2-(intOf i).toNat);case atStart=>exact⟨1,_,[t],rfl,Nat.le_refl _,.inr rfl,HQ2.out,HT2.out,HR2.out,HS2.out,rfl,fun s hs=>by rw[List.mem_singleton.1 hs];exact HTS.out,HD2.out.mono (by omega)⟩
 case round =>
  obtain⟨k,v,ss,rfl,hk1,hk,HQ,HT,HR,HS,HL,HZ,HD⟩:=hrel;clear HQ2 HT2 HR2 HS2 HD2;obtain⟨A,cap,rfl,_,_⟩:=Own.SubO.strs HS.out;have HS':=HS.out;rw[HL.out]at HS';have HSX:=zh HS';have HQ':=HQ.out;rw[HL.out]at HQ';have HQX:=zh HQ';clear HS' HQ' HS HQ;have hw:=HD.out.chg.size;have hqz:=HQX.out.lt;have q0:=HQX.out.cell 0;have t2:=HT.out.cell 2;have tz:=HT.out.lt;have qf:=HQX.out.frozen 0;simp at q0 t2;by_cases hlt:k<n2
  · have HSL:=zh (HD.out.src.later (Below.new wr (.cells #[.string ⟨#[]⟩,.string ⟨#[97,110,110]⟩,.string ⟨#[98,111,98]⟩,.string ⟨#[51]⟩,.string ⟨#[49,50]⟩,.string ⟨#[120,32,121]⟩] 9)));have HLL:=zh (vH wr 9 [⟨#[]⟩,⟨#[97,110,110]⟩,⟨#[98,111,98]⟩,⟨#[51]⟩,⟨#[49,50]⟩,⟨#[120,32,121]⟩] #[.string ⟨#[]⟩,.string ⟨#[97,110,110]⟩,.string ⟨#[98,111,98]⟩,.string ⟨#[51]⟩,.string ⟨#[49,50]⟩,.string ⟨#[120,32,121]⟩] rfl);have HKT:=zh (fun W (h1:SrcR W p (K+2+2*k)) (h2:Strs W W.heap.size (some ⟨wr.heap.size,0,none⟩) 6 [⟨#[]⟩,⟨#[97,110,110]⟩,⟨#[98,111,98]⟩,⟨#[51]⟩,⟨#[49,50]⟩,⟨#[120,32,121]⟩])=>zH0 p (K+2+2*k) (some ⟨wr.heap.size,0,none⟩) 6 6 [⟨#[]⟩,⟨#[97,110,110]⟩,⟨#[98,111,98]⟩,⟨#[51]⟩,⟨#[49,50]⟩,⟨#[120,32,121]⟩] W h1 (by omega) h2 (by omega) (by omega));have l2:=(HQX.out.alloc (.cells #[.string ⟨#[]⟩,.string ⟨#[97,110,110]⟩,.string ⟨#[98,111,98]⟩,.string ⟨#[51]⟩,.string ⟨#[49,50]⟩,.string ⟨#[120,32,121]⟩] 9)).cell 0;simp at l2;have hkn:(k:Int)<(n2:Int):=by omega
    go_wp2_with fail
    go_region_law (first
     | (refine step_append_lies _ (by rfl) _ _ _ (by rfl) w.heap.size 9 i0 _ 1 16 Tryz.underlying27 hi hz0 hz1 hz2 rfl (by omega) (.slice A k cap) k (ss.map Value.string) (by rfl) (by exact HRA.out)
         ⟨w3.heap.size,0,none⟩ 1 1 [.string t'] (by rfl) (by rfl) (by exact cell_one_new _ _ _) (by simp[Value.oneCell']) (by omega) (by unfold maxLen;omega) (by omega) (by simp;omega) (w3.heap.size+1) (by simp) ?_
        intro gg cap' w5 hown5 hgrow5 hat hlt2;have HQY:=zh ((HQ4.out.alloc (.cells #[.string t'] 9)).grown hgrow5 (fun e=>Own.own_blk_ne HRA.out (HQ4.out.alloc (.cells #[.string t'] 9)) (by decide) e.symm));have HRY:=zh ((HR4.out.alloc (.cells #[.string t'] 9)).grown hgrow5 (fun e=>Own.own_blk_ne HRA.out (HR4.out.alloc (.cells #[.string t'] 9)) (by decide) e.symm));have HTY:=zh ((HT4.out.alloc (.cells #[.string t'] 9)).grown hgrow5 (fun e=>Own.own_blk_ne HRA.out (HT4.out.alloc (.cells #[.string t'] 9)) (by decide) e.symm));have HDY:=zh ((HD4.out.later (Below.new w3 (.cells #[.string t'] 9))).grown hgrow5 (fun g hg=>(HRA.out.lt g hg).1) hpw);have HSY:=zh (zMK hown5 (by rw[HL.out]));have y0:=HQY.out.cell 0;have yz:=HQY.out.lt;have yf:=HQY.out.frozen 0;simp at y0
        clear hown5 hgrow5)
     | (go_simp
        go_at_call 96;refine(HKT.out _ (HSL.out.later (Below.refl _ _).drew) (HLL.out.later (Below.refl _ _).drew)).mono ?_;rintro e w3 ⟨t',ht,rfl,hd3'⟩;have hd3:=hd3'.pre (Below.refl _ (wr.alloc (.cells #[.string ⟨#[]⟩,.string ⟨#[97,110,110]⟩,.string ⟨#[98,111,98]⟩,.string ⟨#[51]⟩,.string ⟨#[49,50]⟩,.string ⟨#[120,32,121]⟩] 9))).drew;have HD4:=zh ((HD.out.later (Below.new _ _)).trans hd3);have HS4:=zh (SubO.drawn (yY HSX.out (Below.new wr (.cells #[.string ⟨#[]⟩,.string ⟨#[97,110,110]⟩,.string ⟨#[98,111,98]⟩,.string ⟨#[51]⟩,.string ⟨#[49,50]⟩,.string ⟨#[120,32,121]⟩] 9))) HSL.out hd3);have HQ4:=zh (Blk.drawn (HQX.out.alloc (.cells #[.string ⟨#[]⟩,.string ⟨#[97,110,110]⟩,.string ⟨#[98,111,98]⟩,.string ⟨#[51]⟩,.string ⟨#[49,50]⟩,.string ⟨#[120,32,121]⟩] 9)) hd3 (by omega));have HR4:=zh (Blk.drawn (HR.out.alloc (.cells #[.string ⟨#[]⟩,.string ⟨#[97,110,110]⟩,.string ⟨#[98,111,98]⟩,.string ⟨#[51]⟩,.string ⟨#[49,50]⟩,.string ⟨#[120,32,121]⟩] 9)) hd3 (by omega));have HT4:=zh (Blk.drawn (HT.out.alloc (.cells #[.string ⟨#[]⟩,.string ⟨#[97,110,110]⟩,.string ⟨#[98,111,98]⟩,.string ⟨#[51]⟩,.string ⟨#[49,50]⟩,.string ⟨#[120,32,121]⟩] 9)) hd3 (by omega));have HTT:Hid (t'.size≤16):=(by decide:∀s∈([⟨#[]⟩,⟨#[97,110,110]⟩,⟨#[98,111,98]⟩,⟨#[51]⟩,⟨#[49,50]⟩,⟨#[120,32,121]⟩]:List ByteArray),s.size≤16) t' ht;have j2:=HQ4.out.cell 0;have j2':=(HQ4.out.alloc (.cells #[.string t'] 9)).cell 0;have jz:=HQ4.out.lt;have jw:=HD4.out.chg.size;simp at j2 j2';have HRA:Hid ((w3.alloc (.cells #[.string t'] 9)).ownsRow w.heap.size 9 1 (.slice A k cap) k (ss.map Value.string)):=by have h:=Own.own_later HS4.out (Below.new w3 (.cells #[.string t'] 9));rw[HL.out]at h;exact h
        clear hd3 hd3' ht))
    all_goals
     clear q0 t2 qf l2;go_wp2_with fail;go_roundw;case rel=>exact⟨k+1,_,ss++[t'],by go_num,by omega,.inl (by omega),HQY.out.set_ 0 _,HTY.out.far (p:=⟨w1.heap.size+1,0,none⟩) (show w.heap.size≠w1.heap.size+1 by omega) _,HRY.out.far (p:=⟨w1.heap.size+1,0,none⟩) (show w.heap.size+1≠w1.heap.size+1 by omega) _,HSY.out.setBlk HQY.out (by decide),by unfold Hid;rw[List.length_append,HL.out];rfl,zKN HZ.out HTT.out,(HDY.out.set (show w.heap.size≤w1.heap.size+1 by omega) hpw 0 _).mono (by omega)⟩
     case measure=>simp[intOf];omega
  · have r0:=HR.out.cell 0;have rz:=HR.out.lt;have rf:=HR.out.frozen 0;simp at r0;have hkn:¬(k:Int)<(n2:Int):=by omega
    have hk6:k≤6:=by omega
    go_wp2_with fail;refine bodyPost_ret (v:=.agg #[.slice A k cap]) (by simp[results,Tryz.results141,go_sem,r0]) rfl ?_;exact⟨_,ss,rfl,HSX.out.setBlk HR.out (by decide),by rw[HL.out];omega,by rw[HL.out];exact hk6,HZ.out,(HD.out.set (show w.heap.size≤w.heap.size+1 by omega) hpw 0 _).mono (by omega)⟩
end Go.Proofs.YtfpcjhajjejpdaaGreatDoor
