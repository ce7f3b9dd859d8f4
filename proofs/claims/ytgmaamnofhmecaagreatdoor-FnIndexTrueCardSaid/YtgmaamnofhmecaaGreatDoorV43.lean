import Derived.Test.YtgmaamnofhmecaaGreatDoorV22
import Derived.Test.YtgmaamnofhmecaaGreatDoorV23
set_option maxHeartbeats 40000000
open Go.Lib renaming hid → zh
namespace Go.Proofs.YtgmaamnofhmecaaGreatDoor
open Go.RowKit
set_option linter.unusedVariables false
theorem Drawn.set {p K:Nat} {a b:World} (h:Drawn p K a b) {g:Nat} (hg:a.heap.size≤g) (hp:p<a.heap.size) (i:Nat) (u:Value):Drawn p K a (b.setCell ⟨g,i,none⟩ u) :=
 h.grown (Own.grown_set b g i u) (fun g' e=>by cases e;exact hg) hp
theorem Drawn.own {p K:Nat} {a b c:World} {P:Nat→Prop} (h:Drawn p K a b) (k:Own.Chg P b c) (hP:∀g,P g→a.heap.size≤g) (hp:p<a.heap.size):Drawn p K a c :=
 ⟨h.src.chg k (fun g hg=>Nat.lt_of_lt_of_le hp (hP g hg)),h.chg.fresh k hP⟩
theorem zIX {w:World} {base e size n t:Nat} {v:Value} {xs:List Value} {P:Nat→Prop} (h:w.ownsRow base e size v n xs) (hne:e≠t) (hB:∀g,P g→∃cs,Blk w g t cs):Own.inP (fun g=>¬P g) v:=fun g hg hp=>by
 obtain⟨cs,hb⟩:=hB g hp;exact Own.own_blk_ne h hb hne hg
theorem zJQ {P:Nat→Prop} {a b:World} (h:Own.Chg P a b) (o:Obj):Own.Chg P a (b.alloc o):=h.trans (Own.Chg.of_below (Below.new b o))
theorem xO {P:Nat→Prop} {a b:World} {g i:Nat} {u:Value} (h:Own.Chg P a b) (hg:P g):Own.Chg P a (b.setCell ⟨g,i,none⟩ u):=h.set hg i u
def zHz (p K m:Nat) (w:World) (e:Ending) (w':World):Prop:=∃s:ByteArray,e=.returned (.string s)∧s.size≤m∧Drawn p K w w'
set_option maxRecDepth 100000 in
theorem zIh (p K:Nat) (w:World) (h:SrcR w p K) (hK:K≤549755813888) :
 Calls Tryz.prog 83 #[.pointer (some ⟨p,0,none⟩)] w (zHz p (K+2) 16 w):=by
 have HK1:=zh (vQ p K (some ⟨w.heap.size,0,none⟩) 6 6 [⟨#[49]⟩,⟨#[50]⟩,⟨#[49,48]⟩,⟨#[120]⟩,⟨#[45,51]⟩,⟨#[98]⟩] (w.alloc (.cells #[.string ⟨#[49]⟩,.string ⟨#[50]⟩,.string ⟨#[49,48]⟩,.string ⟨#[120]⟩,.string ⟨#[45,51]⟩,.string ⟨#[98]⟩] 9)) (h.later (Below.new _ _)) (by omega) (zT0 w _ [⟨#[49]⟩,⟨#[50]⟩,⟨#[49,48]⟩,⟨#[120]⟩,⟨#[45,51]⟩,⟨#[98]⟩] _ rfl) (by omega) (by omega));clear h;go_enter Tryz.func83,Tryz.ntmps83;go_wp2_with fail;refine HK1.out.mono ?_;rintro e w1 ⟨s,hs,rfl,hd⟩;have hsz:s.size≤16:=(by decide:∀s∈([⟨#[49]⟩,⟨#[50]⟩,⟨#[49,48]⟩,⟨#[120]⟩,⟨#[45,51]⟩,⟨#[98]⟩]:List ByteArray),s.size≤16) s hs;have HD:=zh (hd.pre (Below.new _ _));clear hd hs HK1;go_wp2_with fail;go_ret;exact⟨s,rfl,hsz,HD.out⟩
set_option maxRecDepth 100000 in
theorem zIf (p K:Nat) (w:World) (h:SrcR w p K) (hK:K≤549755813888) :
 Calls Tryz.prog 189 #[.pointer (some ⟨p,0,none⟩)] w (zHz p (K+2) 16 w):=by
 have HK1:=zh (vQ p K (some ⟨w.heap.size,0,none⟩) 6 6 [⟨#[49]⟩,⟨#[50]⟩,⟨#[49,48]⟩,⟨#[97]⟩,⟨#[51]⟩,⟨#[98,55]⟩] (w.alloc (.cells #[.string ⟨#[49]⟩,.string ⟨#[50]⟩,.string ⟨#[49,48]⟩,.string ⟨#[97]⟩,.string ⟨#[51]⟩,.string ⟨#[98,55]⟩] 9)) (h.later (Below.new _ _)) (by omega) (zT0 w _ [⟨#[49]⟩,⟨#[50]⟩,⟨#[49,48]⟩,⟨#[97]⟩,⟨#[51]⟩,⟨#[98,55]⟩] _ rfl) (by omega) (by omega));clear h;go_enter Tryz.func189,Tryz.ntmps189;go_wp2_with fail;refine HK1.out.mono ?_;rintro e w1 ⟨s,hs,rfl,hd⟩;have hsz:s.size≤16:=(by decide:∀s∈([⟨#[49]⟩,⟨#[50]⟩,⟨#[49,48]⟩,⟨#[97]⟩,⟨#[51]⟩,⟨#[98,55]⟩]:List ByteArray),s.size≤16) s hs;have HD:=zh (hd.pre (Below.new _ _));clear hd hs HK1;go_wp2_with fail;go_ret;exact⟨s,rfl,hsz,HD.out⟩
structure TabO (w:World) (base:Nat) (c0 c1 c2 c3:Value) (d:TableD):Prop where
 nm:c0=.string d.name
 gl:c1=.string d.glob
 cols:Own.SubO w base c2 d.cols
 idx:Own.SubO w base c3 d.idx
 ap:Own.apart c2 c3
section
variable {w w':World} {bs bs' p K K':Nat} {c0 c1 c2 c3:Value} {d:TableD}
theorem TabO.later (h:TabO w bs c0 c1 c2 c3 d) (hb:Below w.heap.size w w'):TabO w' bs c0 c1 c2 c3 d:=⟨h.nm,h.gl,Own.own_later h.cols hb,Own.own_later h.idx hb,h.ap⟩
theorem TabO.base (h:TabO w bs' c0 c1 c2 c3 d) (hb:bs≤bs'):TabO w bs c0 c1 c2 c3 d:=⟨h.nm,h.gl,Own.own_base h.cols hb,Own.own_base h.idx hb,h.ap⟩
theorem TabO.drawn (h:TabO w bs c0 c1 c2 c3 d) (hs:SrcR w p K) (hd:Drawn p K' w w'):TabO w' bs c0 c1 c2 c3 d:=⟨h.nm,h.gl,SubO.drawn h.cols hs hd,SubO.drawn h.idx hs hd,h.ap⟩
theorem TabO.setBlk {g tp i:Nat} {u:Value} {cs:Array Value} (h:TabO w bs c0 c1 c2 c3 d) (hB:Blk w g tp cs) (h2:9≠tp):TabO (w.setCell ⟨g,i,none⟩ u) bs c0 c1 c2 c3 d:=⟨h.nm,h.gl,h.cols.setBlk hB h2,h.idx.setBlk hB h2,h.ap⟩
theorem TabO.reads (h:TabO w bs c0 c1 c2 c3 d):TableR w w.heap.size c0 c1 c2 c3 d:=by
 obtain⟨A2,p2,e2,k2,s2⟩:=h.cols.strs;obtain⟨A3,p3,e3,k3,s3⟩:=h.idx.strs;exact⟨h.nm,h.gl,⟨A2,_,p2,e2,s2,k2⟩,⟨A3,_,p3,e3,s3,k3⟩⟩
end
def zCl (m:Nat) (d:TableD):Prop:=d.name.size≤16∧d.glob.size≤16∧(d.cols.length≤m∧∀s∈d.cols,s.size≤16)∧(d.idx.length≤m∧∀s∈d.idx,s.size≤16)
theorem zDs {m:Nat} {d:TableD} (h:zCl m d) (hm:m≤1000):d.small :=
 ⟨Nat.le_trans h.1 (by decide),Nat.le_trans h.2.1 (by decide),⟨Nat.le_trans (Nat.le_trans h.2.2.1.1 hm) (by decide),fun s hs=>Nat.le_trans (h.2.2.1.2 s hs) (by decide)⟩,⟨Nat.le_trans (Nat.le_trans h.2.2.2.1 hm) (by decide),fun s hs=>Nat.le_trans (h.2.2.2.2 s hs) (by decide)⟩⟩
def zJn (p K m:Nat) (w:World) (e:Ending) (w':World):Prop:=∃c0 c1 c2 c3 d,e=.returned (.agg #[c0,c1,c2,c3])∧TabO w' w.heap.size c0 c1 c2 c3 d∧zCl m d∧Drawn p K w w'
theorem zBH {w X:World} {p K q:Nat} {c0 c1 c2 c3 a0 a1 a2 a3:Value} {d:TableD} (h:TabO X w.heap.size c0 c1 c2 c3 d) (hq:Blk X q 29 #[a0,a1,a2,a3]) (hd:Drawn p K w X) (hp:p<w.heap.size) (hwq:w.heap.size≤q) (x0 x1 x2 x3:Value) :
 TabO ((((X.setCell ⟨q,0,none⟩ x0).setCell ⟨q,1,none⟩ x1).setCell ⟨q,2,none⟩ x2).setCell ⟨q,3,none⟩ x3) w.heap.size c0 c1 c2 c3 d∧Drawn p K w ((((X.setCell ⟨q,0,none⟩ x0).setCell ⟨q,1,none⟩ x1).setCell ⟨q,2,none⟩ x2).setCell ⟨q,3,none⟩ x3) :=
 ⟨(((h.setBlk hq (by decide)).setBlk (hq.set_ 0 x0) (by decide)).setBlk ((hq.set_ 0 x0).set_ 1 x1) (by decide)).setBlk (((hq.set_ 0 x0).set_ 1 x1).set_ 2 x2) (by decide),
  (((hd.set hwq hp 0 x0).set hwq hp 1 x1).set hwq hp 2 x2).set hwq hp 3 x3⟩
set_option maxRecDepth 100000 in
theorem zFY (p K:Nat) (w:World) (h:SrcR w p K) (hK:K≤549755813888) :
 Calls Tryz.prog 117 #[.pointer (some ⟨p,0,none⟩)] w (zJn p (K+2) 4 w):=by
 have hpw:=h.lt;obtain⟨WB,hWB⟩:∃WB,WB=(((w.alloc (.cells #[.string ⟨#[]⟩,.string ⟨#[]⟩,.slice none 0 0,.slice none 0 0] 29)).alloc (.cells #[.string ⟨#[105,100]⟩,.string ⟨#[110,97,109,101]⟩,.string ⟨#[98,101,100]⟩,.string ⟨#[100,114]⟩] 9)).alloc (.cells #[.string ⟨#[110,97,109,101]⟩] 9)).alloc (.cells #[.string ⟨#[87,65,82,68]⟩,.string ⟨#[87]⟩,.slice (some ⟨w.heap.size+1,0,none⟩) 4 4,.slice (some ⟨w.heap.size+1+1,0,none⟩) 1 1] 29):=⟨_,rfl⟩;have HBB:Hid (Below w.heap.size w WB):=by subst hWB;exact zCi w (.cells #[.string ⟨#[]⟩,.string ⟨#[]⟩,.slice none 0 0,.slice none 0 0] 29) (.cells #[.string ⟨#[105,100]⟩,.string ⟨#[110,97,109,101]⟩,.string ⟨#[98,101,100]⟩,.string ⟨#[100,114]⟩] 9) (.cells #[.string ⟨#[110,97,109,101]⟩] 9) (.cells #[.string ⟨#[87,65,82,68]⟩,.string ⟨#[87]⟩,.slice (some ⟨w.heap.size+1,0,none⟩) 4 4,.slice (some ⟨w.heap.size+1+1,0,none⟩) 1 1] 29)
 have HR0:Hid (Blk WB w.heap.size 29 #[.string ⟨#[]⟩,.string ⟨#[]⟩,.slice none 0 0,.slice none 0 0]):=by subst hWB;exact zDf w (.cells #[.string ⟨#[]⟩,.string ⟨#[]⟩,.slice none 0 0,.slice none 0 0] 29) (.cells #[.string ⟨#[105,100]⟩,.string ⟨#[110,97,109,101]⟩,.string ⟨#[98,101,100]⟩,.string ⟨#[100,114]⟩] 9) (.cells #[.string ⟨#[110,97,109,101]⟩] 9) (.cells #[.string ⟨#[87,65,82,68]⟩,.string ⟨#[87]⟩,.slice (some ⟨w.heap.size+1,0,none⟩) 4 4,.slice (some ⟨w.heap.size+1+1,0,none⟩) 1 1] 29)
 have HB0:Hid (Blk WB (w.heap.size+1+1+1) 29 #[.string ⟨#[87,65,82,68]⟩,.string ⟨#[87]⟩,.slice (some ⟨w.heap.size+1,0,none⟩) 4 4,.slice (some ⟨w.heap.size+1+1,0,none⟩) 1 1]):=by subst hWB;exact zDc w (.cells #[.string ⟨#[]⟩,.string ⟨#[]⟩,.slice none 0 0,.slice none 0 0] 29) (.cells #[.string ⟨#[105,100]⟩,.string ⟨#[110,97,109,101]⟩,.string ⟨#[98,101,100]⟩,.string ⟨#[100,114]⟩] 9) (.cells #[.string ⟨#[110,97,109,101]⟩] 9) (.cells #[.string ⟨#[87,65,82,68]⟩,.string ⟨#[87]⟩,.slice (some ⟨w.heap.size+1,0,none⟩) 4 4,.slice (some ⟨w.heap.size+1+1,0,none⟩) 1 1] 29)
 have HC0:Hid (Own.SubO WB w.heap.size (.slice (some ⟨w.heap.size+1,0,none⟩) 4 4) [⟨#[105,100]⟩,⟨#[110,97,109,101]⟩,⟨#[98,101,100]⟩,⟨#[100,114]⟩]):=by subst hWB;exact Own.sub_of_blk (ss:=[⟨#[105,100]⟩,⟨#[110,97,109,101]⟩,⟨#[98,101,100]⟩,⟨#[100,114]⟩]) (zDe w (.cells #[.string ⟨#[]⟩,.string ⟨#[]⟩,.slice none 0 0,.slice none 0 0] 29) (.cells #[.string ⟨#[105,100]⟩,.string ⟨#[110,97,109,101]⟩,.string ⟨#[98,101,100]⟩,.string ⟨#[100,114]⟩] 9) (.cells #[.string ⟨#[110,97,109,101]⟩] 9) (.cells #[.string ⟨#[87,65,82,68]⟩,.string ⟨#[87]⟩,.slice (some ⟨w.heap.size+1,0,none⟩) 4 4,.slice (some ⟨w.heap.size+1+1,0,none⟩) 1 1] 29)) (by omega) (by simp[maxLen])
 have HI0:Hid (Own.SubO WB w.heap.size (.slice (some ⟨w.heap.size+1+1,0,none⟩) 1 1) [⟨#[110,97,109,101]⟩]):=by subst hWB;exact Own.sub_of_blk (ss:=[⟨#[110,97,109,101]⟩]) (zDd w (.cells #[.string ⟨#[]⟩,.string ⟨#[]⟩,.slice none 0 0,.slice none 0 0] 29) (.cells #[.string ⟨#[105,100]⟩,.string ⟨#[110,97,109,101]⟩,.string ⟨#[98,101,100]⟩,.string ⟨#[100,114]⟩] 9) (.cells #[.string ⟨#[110,97,109,101]⟩] 9) (.cells #[.string ⟨#[87,65,82,68]⟩,.string ⟨#[87]⟩,.slice (some ⟨w.heap.size+1,0,none⟩) 4 4,.slice (some ⟨w.heap.size+1+1,0,none⟩) 1 1] 29)) (by omega) (by simp[maxLen])
 have HS0:=zh (h.later HBB.out);have HK1:=zh (zO0 p K 4 WB HS0.out (by omega) (by omega));clear h;go_enter Tryz.func117,Tryz.ntmps117;go_wp2_with fail;rw[←hWB];clear hWB;refine HK1.out.mono ?_;rintro e w1 ⟨x,rfl,hx,hd⟩;have HD1:=zh (hd.pre HBB.out);have HR1:=zh (Blk.drawn HR0.out hd (by omega));have HB1:=zh (Blk.drawn HB0.out hd (by omega));have HC1:=zh (SubO.drawn HC0.out HS0.out hd);have HI1:=zh (SubO.drawn HI0.out HS0.out hd);clear hd HR0 HB0 HC0 HI0 HS0 HK1 HBB;have hz:=HB1.out.lt;have hz0:=HR1.out.lt;have b0:=HB1.out.cell 0;have b1:=HB1.out.cell 1;have b2:=HB1.out.cell 2;have b3:=HB1.out.cell 3;have r0:=HR1.out.cell 0;have r1:=HR1.out.cell 1;have r2:=HR1.out.cell 2;have r3:=HR1.out.cell 3;have f2:=HB1.out.frozen 2;have f3:=HB1.out.frozen 3;have g0:=HR1.out.frozen 0;have g1:=HR1.out.frozen 1;have g2:=HR1.out.frozen 2;have g3:=HR1.out.frozen 3;simp at b0 b1 b2 b3 r0 r1 r2 r3;have hx4:x≤3:=by omega
 clear hx;have hbr:w.heap.size+1+1+1≠w.heap.size:=by omega
 have hz':w.heap.size+1+1+1<w1.heap.size+1:=by omega
 have hz0':w.heap.size<w1.heap.size+1:=by omega
 have hw1:=HD1.out.chg.size
 have HCX:∀Y,Own.Chg (fun g=>g=w.heap.size∨g=w.heap.size+1+1+1) w1 Y→Drawn p (K+2) w Y∧Own.SubO Y w.heap.size (.slice (some ⟨w.heap.size+1,0,none⟩) 4 4) [⟨#[105,100]⟩,⟨#[110,97,109,101]⟩,⟨#[98,101,100]⟩,⟨#[100,114]⟩]∧Own.SubO Y w.heap.size (.slice (some ⟨w.heap.size+1+1,0,none⟩) 1 1) [⟨#[110,97,109,101]⟩]:=fun Y hY=>by
  have hB:∀g,(g=w.heap.size∨g=w.heap.size+1+1+1)→∃cs,Blk w1 g 29 cs:=fun g hg=>by
   rcases hg with rfl | rfl
   · exact⟨_,HR1.out⟩
   · exact⟨_,HB1.out⟩
  exact⟨HD1.out.own hY (fun g hg=>by rcases hg with rfl | rfl <;> omega) hpw,Own.own_chg HC1.out hY (zIX HC1.out (by decide) hB),Own.own_chg HI1.out hY (zIX HI1.out (by decide) hB)⟩
 have HCX:=zh HCX;rcases (by omega:x=0∨x=1∨x=2∨x=3) with rfl | rfl | rfl | rfl
 · go_wp2_with fail;refine bodyPost_ret (v:=.agg #[.string ⟨#[87,65,82,68]⟩,.string ⟨#[87]⟩,.slice (some ⟨w.heap.size+1,0,none⟩) 4 4,.slice (some ⟨w1.heap.size,0,none⟩) 2 2]) (by simp[results,Tryz.results117,go_sem,World.cell?_alloc_lt,hz0,r0,r1,r2,r3]) rfl ?_;refine⟨_,_,_,_,⟨⟨#[87,65,82,68]⟩,⟨#[87]⟩,[⟨#[105,100]⟩,⟨#[110,97,109,101]⟩,⟨#[98,101,100]⟩,⟨#[100,114]⟩],[⟨#[98,101,100]⟩,⟨#[100,114]⟩]⟩,rfl,⟨rfl,rfl,?_,?_,.inr (by simp[Value.ownBlock];try omega)⟩,⟨by decide,by decide,⟨by decide,by decide⟩,⟨by decide,by decide⟩⟩,?_⟩
   · exact(HCX.out _ (zJQ (xO (xO (xO (xO (xO (Own.Chg.refl _ _) (.inr rfl)) (.inl rfl)) (.inl rfl)) (.inl rfl)) (.inl rfl)) _)).2.1
   · exact(vM [⟨#[98,101,100]⟩,⟨#[100,114]⟩] _ (by simp) (by omega) rfl (by decide) rfl)
   · exact(HCX.out _ (zJQ (xO (xO (xO (xO (xO (Own.Chg.refl _ _) (.inr rfl)) (.inl rfl)) (.inl rfl)) (.inl rfl)) (.inl rfl)) _)).1
 · go_wp2_with fail;refine bodyPost_ret (v:=.agg #[.string ⟨#[87,65,82,68]⟩,.string ⟨#[87]⟩,.slice (some ⟨w1.heap.size,0,none⟩) 1 1,.slice (some ⟨w1.heap.size+1,0,none⟩) 0 0]) (by simp[results,Tryz.results117,go_sem,World.cell?_alloc_lt,hz0,hz0',r0,r1,r2,r3]) rfl ?_;refine⟨_,_,_,_,⟨⟨#[87,65,82,68]⟩,⟨#[87]⟩,[⟨#[105,100]⟩],[]⟩,rfl,⟨rfl,rfl,?_,?_,.inr (by simp[Value.ownBlock];try omega)⟩,⟨by decide,by decide,⟨by decide,by decide⟩,⟨by decide,by decide⟩⟩,?_⟩
   · refine xI ?_ (Below.new _ _);exact((vM [⟨#[105,100]⟩] _ (by simp) (by omega) rfl (by decide) rfl))
   · exact(vM [] _ (by simp) (by omega) rfl (by decide) rfl)
   · exact(HCX.out _ (zJQ (zJQ (xO (xO (xO (xO (xO (xO (Own.Chg.refl _ _) (.inr rfl)) (.inr rfl)) (.inl rfl)) (.inl rfl)) (.inl rfl)) (.inl rfl)) _) _)).1
 · go_wp2_with fail;refine bodyPost_ret (v:=.agg #[.string ⟨#[87,65,82,68]⟩,.string ⟨#[87]⟩,.slice (some ⟨w1.heap.size,0,none⟩) 2 2,.slice (some ⟨w1.heap.size+1,0,none⟩) 1 1]) (by simp[results,Tryz.results117,go_sem,World.cell?_alloc_lt,hz0,hz0',r0,r1,r2,r3]) rfl ?_;refine⟨_,_,_,_,⟨⟨#[87,65,82,68]⟩,⟨#[87]⟩,[⟨#[105,100]⟩,⟨#[110,97,109,101]⟩],[⟨#[110,97,109,101]⟩]⟩,rfl,⟨rfl,rfl,?_,?_,.inr (by simp[Value.ownBlock];try omega)⟩,⟨by decide,by decide,⟨by decide,by decide⟩,⟨by decide,by decide⟩⟩,?_⟩
   · refine xI ?_ (Below.new _ _);exact((vM [⟨#[105,100]⟩,⟨#[110,97,109,101]⟩] _ (by simp) (by omega) rfl (by decide) rfl))
   · exact(vM [⟨#[110,97,109,101]⟩] _ (by simp) (by omega) rfl (by decide) rfl)
   · exact(HCX.out _ (zJQ (zJQ (xO (xO (xO (xO (xO (xO (Own.Chg.refl _ _) (.inr rfl)) (.inr rfl)) (.inl rfl)) (.inl rfl)) (.inl rfl)) (.inl rfl)) _) _)).1
 · go_wp2_with fail;refine bodyPost_ret (v:=.agg #[.string ⟨#[87,65,82,68]⟩,.string ⟨#[87]⟩,.slice (some ⟨w.heap.size+1,0,none⟩) 4 4,.slice (some ⟨w.heap.size+1+1,0,none⟩) 1 1]) (by simp[results,Tryz.results117,go_sem,r0,r1,r2,r3]) rfl ?_;refine⟨_,_,_,_,⟨⟨#[87,65,82,68]⟩,⟨#[87]⟩,[⟨#[105,100]⟩,⟨#[110,97,109,101]⟩,⟨#[98,101,100]⟩,⟨#[100,114]⟩],[⟨#[110,97,109,101]⟩]⟩,rfl,⟨rfl,rfl,?_,?_,.inr (by simp[Value.ownBlock];try omega)⟩,⟨by decide,by decide,⟨by decide,by decide⟩,⟨by decide,by decide⟩⟩,?_⟩
   · exact(HCX.out _ (xO (xO (xO (xO (Own.Chg.refl _ _) (.inl rfl)) (.inl rfl)) (.inl rfl)) (.inl rfl))).2.1
   · exact(HCX.out _ (xO (xO (xO (xO (Own.Chg.refl _ _) (.inl rfl)) (.inl rfl)) (.inl rfl)) (.inl rfl))).2.2
   · exact(HCX.out _ (xO (xO (xO (xO (Own.Chg.refl _ _) (.inl rfl)) (.inl rfl)) (.inl rfl)) (.inl rfl))).1
end Go.Proofs.YtgmaamnofhmecaaGreatDoor
