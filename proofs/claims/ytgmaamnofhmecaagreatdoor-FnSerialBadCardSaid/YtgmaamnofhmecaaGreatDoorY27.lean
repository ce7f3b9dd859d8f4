import Derived.Test.YtgmaamnofhmecaaGreatDoorY12
import Derived.Test.YtgmaamnofhmecaaGreatDoorY01
import Derived.Test.YtgmaamnofhmecaaGreatDoorY09
import Derived.Test.YtgmaamnofhmecaaGreatDoorY11
import Derived.Test.YtgmaamnofhmecaaGreatDoorY24
import Derived.Test.YtgmaamnofhmecaaGreatDoorY15
import Derived.Test.YtgmaamnofhmecaaGreatDoorY17
import Derived.Test.YtgmaamnofhmecaaGreatDoorY26
import Derived.Test.YtgmaamnofhmecaaGreatDoorY16
set_option linter.unusedSimpArgs false
set_option maxHeartbeats 4000000
open Go.Lib renaming hid → zh
namespace Go.Proofs.YtgmaamnofhmecaaGreatDoor
open Go.RowKit
theorem zCD {α:Type} (p:α→Bool) (l:List α):(!(l.any fun c=>!p c))=l.all p:=by
 induction l with
 | nil=>rfl
 | cons a r ih=>rw[List.any_cons,List.all_cons,←ih];cases p a <;> simp
end Go.Proofs.YtgmaamnofhmecaaGreatDoor
namespace Go.Proofs.YtgmaamnofhmecaaGreatDoor
open Go.RowKit
theorem zV0 (A:Option Addr) (n c:Nat) (ss:List ByteArray) (w:World) (h:Strs w w.heap.size A n ss) (hn:n≤1048576) :
 Calls Tryz.prog 169 #[.slice A n c] w fun e w'=>∃v,e=.returned v∧Own.SubO w' w.heap.size v ss∧Below w.heap.size w w':=by
 rcases Nat.eq_zero_or_pos n with h0 | h0
 · subst h0;obtain rfl:ss=[]:=List.eq_nil_of_length_eq_zero h.1
   cases A with
   | none=>exact(Tryz.slices_Clone_string_nil 0 c w).mono fun e w' ⟨he,hw⟩=>⟨_,he,by subst hw;exact Own.sub_nil _ _,by subst hw;exact Below.refl _ _⟩
   | some a=>exact(Tryz.slices_Clone_string_zero a c w).mono fun e w' ⟨v,he,ho,_,hb⟩=>⟨v,he,ho,hb⟩
 · obtain⟨b,o,rfl,hb,hc⟩:=h.2 h0;have hl:=h.1;refine(Tryz.slices_Clone_string b o n c ss w (by omega) (by omega) (fun j hj=>hc j (by omega))).mono fun e w' ⟨v,he,ho,_,hb⟩=>⟨v,he,?_,hb⟩;rw[List.take_of_length_le (by omega),←hl]at ho;exact ho
end Go.Proofs.YtgmaamnofhmecaaGreatDoor
namespace Go.Proofs.YtgmaamnofhmecaaGreatDoor
open Go.RowKit
set_option linter.unusedVariables false
theorem zJJ {X:World} {B p q:Nat} {v a b c d e u:Value} {ss:List ByteArray} {cs0 cs1 cs2:Array Value} (h:Own.SubO X B v ss) (h1:Blk (X.setCell ⟨p,2,none⟩ u) p 55 cs1) (h0:Blk X p 55 cs0) (h2:Blk X q 55 cs2) (hpq:q≠p) :
 Own.SubO (((((((X.setCell ⟨p,2,none⟩ u).setCell ⟨q,0,none⟩ a).setCell ⟨q,1,none⟩ b).setCell ⟨q,2,none⟩ c).setCell ⟨q,3,none⟩ d).setCell ⟨q,4,none⟩ e)) B v ss:=by
 have k0:=Own.SubO.setBlk (u:=u) (i:=2) h h0 (by decide);have g1:Blk (X.setCell ⟨p,2,none⟩ u) q 55 cs2:=h2.far (p:=⟨p,2,none⟩) hpq u;have k1:=Own.SubO.setBlk (u:=a) (i:=0) k0 g1 (by decide);have g2:=g1.set_ 0 a;have k2:=Own.SubO.setBlk (u:=b) (i:=1) k1 g2 (by decide);have g3:=g2.set_ 1 b;have k3:=Own.SubO.setBlk (u:=c) (i:=2) k2 g3 (by decide);have g4:=g3.set_ 2 c;have k4:=Own.SubO.setBlk (u:=d) (i:=3) k3 g4 (by decide);have g5:=g4.set_ 3 d;exact Own.SubO.setBlk (u:=e) (i:=4) k4 g5 (by decide)
theorem zGD {X w:World} {p q:Nat} {a b c d e u:Value} (h:Below w.heap.size w X) (hp:w.heap.size≤p:=by omega) (hq:w.heap.size≤q:=by omega) :
 Below w.heap.size w (((((((X.setCell ⟨p,2,none⟩ u).setCell ⟨q,0,none⟩ a).setCell ⟨q,1,none⟩ b).setCell ⟨q,2,none⟩ c).setCell ⟨q,3,none⟩ d).setCell ⟨q,4,none⟩ e)) :=
 (((((h.setCell (p:=⟨p,2,none⟩) hp u).setCell (p:=⟨q,0,none⟩) hq a).setCell (p:=⟨q,1,none⟩) hq b).setCell (p:=⟨q,2,none⟩) hq c).setCell (p:=⟨q,3,none⟩) hq d).setCell (p:=⟨q,4,none⟩) hq e
set_option maxRecDepth 100000 in
theorem zEl (c0 c1 c2 c3 c4:Value) (d:EvD) (w:World) (h:EvR w w.heap.size c0 c1 c2 c3 c4 d) (hsm:d.subs.length≤1048576) :
 Calls Tryz.prog 102 #[.agg #[c0,c1,c2,c3,c4]] w (yM d w):=by
 obtain⟨rfl,rfl,⟨S,m,q,rfl,hs,hmq⟩,rfl,rfl⟩:=h;have hm:m≤1048576:=by rw[←hs.1];exact hsm
 have HK:=zh (fun W (hW:Below w.heap.size w W)=>zV0 S m q d.subs W (hs.later hW) hm);clear hs hsm;unfold yM;generalize d.name=nm at *;generalize d.val=vl at *;generalize d.kind=kd at *;generalize d.n=nn at *;obtain⟨WB,hWB⟩:∃WB,WB=(w.alloc (.cells #[.int .i64 kd,.string nm,.slice S m q,.string vl,.int .i64 nn] 55)).alloc (.cells #[.int .i64 0,.string ⟨#[]⟩,.slice none 0 0,.string ⟨#[]⟩,.int .i64 0] 55):=⟨_,rfl⟩;have HB0:Hid (Below w.heap.size w WB):=by subst hWB;exact(Below.new _ _).later (Below.new _ _)
 have HE0:Hid (Blk WB w.heap.size 55 #[.int .i64 kd,.string nm,.slice S m q,.string vl,.int .i64 nn]):=by subst hWB;exact uD _ _ _
 have HE1:Hid (Blk WB (w.heap.size+1) 55 #[.int .i64 0,.string ⟨#[]⟩,.slice none 0 0,.string ⟨#[]⟩,.int .i64 0]):=by subst hWB;exact xD _ _ _
 have p2:=HE0.out.cell 2;simp at p2;go_enter Tryz.func102,Tryz.ntmps102;go_wp2_with fail;rw[←hWB];clear hWB;refine(HK.out _ HB0.out).mono ?_;rintro e w1 ⟨v1,rfl,ho1,hb1⟩;have HB1:=zh (HB0.out.later hb1);have HF0:=zh (HE0.out.later hb1 HE0.out.lt);have HF1:=zh (HE1.out.later hb1 HE1.out.lt);have HO1:=zh (Own.own_base ho1 HB0.out.size);obtain⟨A1,m1,q1,rfl⟩:∃A1 m1 q1,v1=.slice A1 m1 q1:=by obtain⟨A,cap,e,_⟩:=Own.own_slice ho1;exact⟨A,_,cap,e⟩
 have r0:=HF0.out.cell 0;have r1:=HF0.out.cell 1;have r2:=HF0.out.cell 2;have r3:=HF0.out.cell 3;have r4:=HF0.out.cell 4;have rf:=HF0.out.frozen 2;have rz:=HF0.out.lt;have y0:=HF1.out.cell 0;have y1:=HF1.out.cell 1;have y2:=HF1.out.cell 2;have y3:=HF1.out.cell 3;have y4:=HF1.out.cell 4;have yf0:=HF1.out.frozen 0;have yf1:=HF1.out.frozen 1;have yf2:=HF1.out.frozen 2;have yf3:=HF1.out.frozen 3;have yf4:=HF1.out.frozen 4;have yz:=HF1.out.lt;simp at r0 r1 r2 r3 r4 y0 y1 y2 y3 y4;clear hb1 ho1 p2;go_wp2_with fail;refine bodyPost_ret (v:=.agg #[.int .i64 kd,.string nm,.slice A1 m1 q1,.string vl,.int .i64 nn]) (by simp[results,Tryz.results102,go_sem,y0,y1,y2,y3,y4]) rfl ?_;refine⟨_,rfl,?_,?_⟩
 · exact zJJ HO1.out (HF0.out.set_ 2 _) HF0.out HF1.out (by omega)
 · exact zGD HB1.out
theorem zBC (A:Option Addr) (n c:Nat) (ss:List ByteArray) (w:World) (h:Strs w w.heap.size A n ss) (hn:n≤1048576) :
 Calls Tryz.prog 159 #[.slice A n c] w fun e w'=>∃A' c',e=.returned (.slice A' n c')∧n≤c'∧Own.SubO w' w.heap.size (.slice A' n c') ss∧Below w.heap.size w w':=by
 have HN:=zh h.1;obtain⟨i0,hi,hz0,hz1,hz2⟩:=info_parts zED;have Hh:=zh (zDi h);clear h;go_enter Tryz.func159,Tryz.ntmps159;go_wp2_with (at_builtin;refine uF _ rfl (.tmp 3) (.tmp 4) 27 rfl w.heap.size 9 i0 _ 1 16 Tryz.underlying27 hi hz0 hz1 hz2 rfl (by decide) _ 0 [] rfl (World.ownsRow_lit _ _ 0 (Nat.le_refl _) (by omega) rfl) w.heap.size A n c (ss.map Value.string) rfl (Hh.out.alloc (Nat.le_refl _) _) (zBe ss) ?c1 ?c2 ?c3 ?_);case c1=>unfold maxLen;omega
 case c2=>omega
 case c3=>simp
 intro v w1 ho hg _;have HB:=zh (zEQ (w0:=w) (size:=1) (n:=0) (xs:=[]) (Below.new _ _) (World.ownsRow_lit _ _ 0 (Nat.le_refl _) (by omega) rfl) (Nat.le_refl _) hg);obtain⟨A',c',rfl,hc,_,_⟩:=Own.own_slice ho;have HS:=zh ho;clear ho hg;go_wp2_with fail;go_ret;exact⟨A',c',rfl,hc,by unfold Own.SubO;rw[HN.out];exact HS.out,HB.out⟩
set_option maxRecDepth 100000 in
theorem zHv (c0 c1 c2 c3 c4:Value) (d:EvD) (w:World) (h:EvR w w.heap.size c0 c1 c2 c3 c4 d) (hsm:d.subs.length≤1048576) :
 Calls Tryz.prog 108 #[.agg #[c0,c1,c2,c3,c4]] w (yM d w):=by
 obtain⟨rfl,rfl,⟨S,m,q,rfl,hs,hmq⟩,rfl,rfl⟩:=h;have hm:m≤1048576:=by rw[←hs.1];exact hsm
 have HK:=zh (fun W (hW:Below w.heap.size w W)=>zBC S m q d.subs W (hs.later hW) hm);clear hs hsm;unfold yM;generalize d.name=nm at *;generalize d.val=vl at *;generalize d.kind=kd at *;generalize d.n=nn at *;obtain⟨WB,hWB⟩:∃WB,WB=(w.alloc (.cells #[.int .i64 kd,.string nm,.slice S m q,.string vl,.int .i64 nn] 55)).alloc (.cells #[.int .i64 0,.string ⟨#[]⟩,.slice none 0 0,.string ⟨#[]⟩,.int .i64 0] 55):=⟨_,rfl⟩;have HB0:Hid (Below w.heap.size w WB):=by subst hWB;exact(Below.new _ _).later (Below.new _ _)
 have HE0:Hid (Blk WB w.heap.size 55 #[.int .i64 kd,.string nm,.slice S m q,.string vl,.int .i64 nn]):=by subst hWB;exact uD _ _ _
 have HE1:Hid (Blk WB (w.heap.size+1) 55 #[.int .i64 0,.string ⟨#[]⟩,.slice none 0 0,.string ⟨#[]⟩,.int .i64 0]):=by subst hWB;exact xD _ _ _
 have p2:=HE0.out.cell 2;simp at p2;go_enter Tryz.func108,Tryz.ntmps108;go_wp2_with fail;rw[←hWB];clear hWB;refine(HK.out _ HB0.out).mono ?_;rintro e w1 ⟨A1,q1,rfl,_,ho1,hb1⟩;have HB1:=zh (HB0.out.later hb1);have HF0:=zh (HE0.out.later hb1 HE0.out.lt);have HF1:=zh (HE1.out.later hb1 HE1.out.lt);have HO1:=zh (Own.own_base ho1 HB0.out.size);have r0:=HF0.out.cell 0;have r1:=HF0.out.cell 1;have r2:=HF0.out.cell 2;have r3:=HF0.out.cell 3;have r4:=HF0.out.cell 4;have rf:=HF0.out.frozen 2;have rz:=HF0.out.lt;have y0:=HF1.out.cell 0;have y1:=HF1.out.cell 1;have y2:=HF1.out.cell 2;have y3:=HF1.out.cell 3;have y4:=HF1.out.cell 4;have yf0:=HF1.out.frozen 0;have yf1:=HF1.out.frozen 1;have yf2:=HF1.out.frozen 2;have yf3:=HF1.out.frozen 3;have yf4:=HF1.out.frozen 4;have yz:=HF1.out.lt;simp at r0 r1 r2 r3 r4 y0 y1 y2 y3 y4;clear hb1 ho1 p2;go_wp2_with fail;refine bodyPost_ret (v:=.agg #[.int .i64 kd,.string nm,.slice A1 m q1,.string vl,.int .i64 nn]) (by simp[results,Tryz.results108,go_sem,y0,y1,y2,y3,y4]) rfl ?_;refine⟨_,rfl,?_,?_⟩
 · exact zJJ HO1.out (HF0.out.set_ 2 _) HF0.out HF1.out (by omega)
 · exact zGD HB1.out
set_option maxRecDepth 100000 in
theorem zEb (c0 c1 c2 c3 c4 d0 d1 d2 d3 d4:Value) (a b:EvD) (w:World) (h:EvR w w.heap.size c0 c1 c2 c3 c4 a) (h':EvR w w.heap.size d0 d1 d2 d3 d4 b) (hsa:a.subs.length≤1048576) (hsb:b.subs.length≤1048576) :
 Calls Tryz.prog 163 #[.agg #[c0,c1,c2,c3,c4],.agg #[d0,d1,d2,d3,d4]] w fun e w'=>e=.returned (.bool (vX a b))∧Below w.heap.size w w':=by
 obtain⟨rfl,rfl,⟨S,m,q,rfl,hs,hmq⟩,rfl,rfl⟩:=h;obtain⟨rfl,rfl,⟨S',m',q',rfl,hs',hmq'⟩,rfl,rfl⟩:=h';have hm:m≤1048576:=by rw[←hs.1];exact hsa
 have hm':m'≤1048576:=by rw[←hs'.1];exact hsb
 have HK:=zh (fun W (hW:Below w.heap.size w W)=>zL0 S S' m q m' q' a.subs b.subs W (hs.later hW) (hs'.later hW) hm hm');have HR:Hid (vX a b=(decide (a.kind=b.kind)&&(decide (a.name=b.name)&&(eqS a.subs b.subs&&(decide (a.val=b.val)&&decide (a.n=b.n)))))):=rfl;clear hs hs' hsa hsb;generalize vX a b=R at *;generalize eqS a.subs b.subs=x at *;generalize a.name=an at *;generalize b.name=bn at *;generalize a.val=av at *;generalize b.val=bv at *;generalize a.kind=ak at *;generalize b.kind=bk at *;generalize a.n=ai at *;generalize b.n=bi at *;go_enter Tryz.func163,Tryz.ntmps163;by_cases h0:ak=bk
 · subst h0;by_cases h1:an=bn
   · subst h1;have HR1:Hid (R=(x&&(decide (av=bv)&&decide (ai=bi)))):=by unfold Hid;rw[HR.out];simp
     go_wp2_with fail;refine(HK.out _ ((Below.new _ _).later (Below.new _ _))).mono ?_;rintro e w1 ⟨rfl,z,rfl⟩;cases x
     · go_wp2_with fail;go_ret;exact⟨zA0 (by rw[HR1.out];rfl),vA ((Below.new _ _).later (Below.new _ _)) _⟩
     · by_cases h2:av=bv
       · subst h2;by_cases h3:ai=bi
         · subst h3;go_wp2_with fail;go_ret;exact⟨zA0 (by rw[HR1.out];simp),vA ((Below.new _ _).later (Below.new _ _)) _⟩
         · have hb3:(ai==bi)=false:=beq_eq_false_iff_ne.2 h3;have HE:Hid (R=false):=by unfold Hid;rw[HR1.out];simp[h3]
           clear h3;go_wp2_with fail;go_ret;exact⟨zA0 HE.out.symm,vA ((Below.new _ _).later (Below.new _ _)) _⟩
       · have hb2:=zG0 h2;have HE:Hid (R=false):=by unfold Hid;rw[HR1.out];simp[h2]
         clear h2;go_wp2_with fail;go_ret;exact⟨zA0 HE.out.symm,vA ((Below.new _ _).later (Below.new _ _)) _⟩
   · have hb1:=zG0 h1;have HE:Hid (R=false):=by unfold Hid;rw[HR.out];simp[h1]
     clear h1;go_wp2_with fail;go_ret;exact⟨zA0 HE.out.symm,(Below.new _ _).later (Below.new _ _)⟩
 · have hb0:(ak==bk)=false:=beq_eq_false_iff_ne.2 h0;have HE:Hid (R=false):=by unfold Hid;rw[HR.out];simp[h0]
   clear h0;go_wp2_with fail;go_ret;exact⟨zA0 HE.out.symm,(Below.new _ _).later (Below.new _ _)⟩
set_option maxRecDepth 100000 in
theorem zCd (c0 c1 c2 c3 c4 d0 d1 d2 d3 d4:Value) (a b:EvD) (w:World) (h:EvR w w.heap.size c0 c1 c2 c3 c4 a) (h':EvR w w.heap.size d0 d1 d2 d3 d4 b) (hsa:a.subs.length≤1048576) (hsb:b.subs.length≤1048576) :
 Calls Tryz.prog 105 #[.agg #[c0,c1,c2,c3,c4],.agg #[d0,d1,d2,d3,d4]] w fun e w'=>e=.returned (.bool (vX a b))∧Below w.heap.size w w':=by
 obtain⟨rfl,rfl,⟨S,m,q,rfl,hs,hmq⟩,rfl,rfl⟩:=h;obtain⟨rfl,rfl,⟨S',m',q',rfl,hs',hmq'⟩,rfl,rfl⟩:=h';have hm:m≤1048576:=by rw[←hs.1];exact hsa
 have hm':m'≤1048576:=by rw[←hs'.1];exact hsb
 have HK:=zh (fun W (hW:Below w.heap.size w W)=>zFn S S' m q m' q' a.subs b.subs W (hs.later hW) (hs'.later hW) hm hm');have HR:Hid (vX a b=(decide (a.kind=b.kind)&&(decide (a.name=b.name)&&(eqS a.subs b.subs&&(decide (a.val=b.val)&&decide (a.n=b.n)))))):=rfl;clear hs hs' hsa hsb;generalize vX a b=R at *;generalize eqS a.subs b.subs=x at *;generalize a.name=an at *;generalize b.name=bn at *;generalize a.val=av at *;generalize b.val=bv at *;generalize a.kind=ak at *;generalize b.kind=bk at *;generalize a.n=ai at *;generalize b.n=bi at *;go_enter Tryz.func105,Tryz.ntmps105;by_cases h0:ak=bk
 · subst h0;by_cases h1:an=bn
   · subst h1;have HR1:Hid (R=(x&&(decide (av=bv)&&decide (ai=bi)))):=by unfold Hid;rw[HR.out];simp
     go_wp2_with fail;refine(HK.out _ ((Below.new _ _).later (Below.new _ _))).mono ?_;rintro e w1 ⟨rfl,z,rfl⟩;cases x
     · go_wp2_with fail;go_ret;exact⟨zA0 (by rw[HR1.out];rfl),vA ((Below.new _ _).later (Below.new _ _)) _⟩
     · by_cases h2:av=bv
       · subst h2;by_cases h3:ai=bi
         · subst h3;go_wp2_with fail;go_ret;exact⟨zA0 (by rw[HR1.out];simp),vA ((Below.new _ _).later (Below.new _ _)) _⟩
         · have hb3:(ai==bi)=false:=beq_eq_false_iff_ne.2 h3;have HE:Hid (R=false):=by unfold Hid;rw[HR1.out];simp[h3]
           clear h3;go_wp2_with fail;go_ret;exact⟨zA0 HE.out.symm,vA ((Below.new _ _).later (Below.new _ _)) _⟩
       · have hb2:=zG0 h2;have HE:Hid (R=false):=by unfold Hid;rw[HR1.out];simp[h2]
         clear h2;go_wp2_with fail;go_ret;exact⟨zA0 HE.out.symm,vA ((Below.new _ _).later (Below.new _ _)) _⟩
   · have hb1:=zG0 h1;have HE:Hid (R=false):=by unfold Hid;rw[HR.out];simp[h1]
     clear h1;go_wp2_with fail;go_ret;exact⟨zA0 HE.out.symm,(Below.new _ _).later (Below.new _ _)⟩
 · have hb0:(ak==bk)=false:=beq_eq_false_iff_ne.2 h0;have HE:Hid (R=false):=by unfold Hid;rw[HR.out];simp[h0]
   clear h0;go_wp2_with fail;go_ret;exact⟨zA0 HE.out.symm,(Below.new _ _).later (Below.new _ _)⟩
end Go.Proofs.YtgmaamnofhmecaaGreatDoor
namespace Go.Proofs.YtgmaamnofhmecaaGreatDoor
open Go.RowKit
set_option linter.unusedVariables false
theorem xX (s:ByteArray) (w:World) (hs:s.size≤1048576) :
 Calls Tryz.prog 172 #[.string s] w fun e w'=>e=.returned (.bool (xG s))∧w=w':=by
 have HK:=zh (zDt s w hs);generalize xG s=R at *;go_enter Tryz.func172,Tryz.ntmps172;go_wp2_with fail;refine HK.out.mono ?_;rintro e w1 ⟨rfl,rfl⟩;go_wp2_with fail;go_ret;exact⟨rfl,rfl⟩
theorem zAv {ss:List ByteArray} (h:xN ss=true):0<ss.length∧ss.length≤4∧xC (ss.take (ss.length-1))=true∧(wC ss=⟨#[]⟩∨xG (wC ss)=true):=by
 unfold xN at h;simpa only[Bool.and_eq_true,Bool.or_eq_true,decide_eq_true_eq] using h
set_option maxRecDepth 100000 in
theorem zEh (S:Option Addr) (m q:Nat) (ss:List ByteArray) (w:World) (h:Strs w w.heap.size S m ss) (hmq:m≤q) (hl:xN ss=true) (hz:∀s∈ss,s.size≤1048576) :
 Calls Tryz.prog 228 #[.slice S m q] w fun e w'=>e=.returned (.bool true)∧Below w.heap.size w w':=by
 obtain⟨h1,h2,h3,h4⟩:=zAv hl;rw[h.1]at h1 h2;obtain⟨m,rfl⟩:∃k,m=k+1:=⟨m-1,by omega⟩;have hlen:=h.1;rw[hlen,Nat.add_sub_cancel]at h3;have hls:wC ss=ss.getD m ByteArray.empty:=by unfold wC;rw[hlen,Nat.add_sub_cancel]
 obtain⟨sb,so,rfl,hsb,hsc⟩:=h.2 (by omega);have k0:=hsc m (by omega);rw[←hls]at k0;have HK1:=zh (fun W cq (hW:Below w.heap.size w W)=>zK0 (some ⟨sb,so,none⟩) m cq (ss.take m) W ((h.later hW).take m (by omega)) (by omega) (fun s hs=>hz s (List.mem_of_mem_take hs)));rw[h3]at HK1;have HK2:=zh (fun W=>xX (wC ss) W (by rw[hls];exact hz _ (Own.mem_of_getD ss m _ (by omega))));have hmqI:(m:Int)≤(q:Int):=by omega
 have hm0I:(0:Int)≤(m:Int):=by omega
 have hm4:m≤3:=by omega
 have hq0:¬q=0:=by omega
 have hwm:IntKind.i64.wrap ((m:Int)+1-1)=(m:Int):=by rw[IntKind.wrap_i64];omega
 have hd1:decide (m+1≤4)=true:=decide_eq_true (by omega);clear h hl hz hsc hls h3 h2 h1;generalize wC ss=L at *;go_enter Tryz.func228,Tryz.ntmps228;by_cases hL:L=⟨#[]⟩
 · have el:L.toList.isEmpty=true:=by rw[hL,yA];rfl
   clear hL h4;go_wp2_with fail;refine(HK1.out _ _ (by first | exact Below.refl _ _ | exact vA (Below.refl _ _) _)).mono ?_;rintro e w1 ⟨rfl,rfl⟩;go_wp2_with fail;go_ret;exact⟨rfl,by first | exact Below.refl _ _ | exact vA (Below.refl _ _) _⟩
 · have el:=vC hL;have hs:xG L=true:=h4.resolve_left hL;rw[hs]at HK2;clear hL h4 hs;go_wp2_with fail;refine(HK1.out _ _ (by first | exact Below.refl _ _ | exact vA (Below.refl _ _) _)).mono ?_;rintro e w1 ⟨rfl,rfl⟩;go_wp2_with fail;refine(HK2.out _).mono ?_;rintro e w2 ⟨rfl,rfl⟩;go_wp2_with fail;go_ret;exact⟨rfl,by first | exact Below.refl _ _ | exact vA (Below.refl _ _) _⟩
set_option maxRecDepth 100000 in
theorem zFF (A:Option Addr) (n c:Nat) (fs:List NodeD) (nm:ByteArray) (S:Option Addr) (m q:Nat) (ss:List ByteArray) (back:Bool) (w:World) (h:Nodes w w.heap.size A n fs) (ht:xA fs=true) (hS:Strs w w.heap.size S m ss) (hmq:m≤q) (hnm:xF nm=true) (hns:nm.size≤1048576) (hl:xN ss=true) (hz:∀s∈ss,s.size≤1048576) :
 Calls Tryz.prog 176 #[.agg #[.slice A n c],.string nm,.slice S m q,.bool back] w fun e w'=>e=.returned (.string (wM nm ss back fs))∧Below w.heap.size w w':=by
 obtain⟨hl1,hl2,_,_⟩:=zAv hl;rw[hS.1]at hl1 hl2;have HK1:=zh (fun W (hW:Below w.heap.size w W)=>vF A n c fs W (h.later hW) (zC0 ht));have HK2:=zh (fun W=>wT nm W hns);have HK3:=zh (fun W (hW:Below w.heap.size w W)=>zEh S m q ss W (hS.later hW) hmq hl hz);obtain⟨m,rfl⟩:∃k,m=k+1:=⟨m-1,by omega⟩;have HK4:=zh (fun W (hW:Below w.heap.size w W)=>zFo A n c fs nm S m q ss back W (h.later hW) (zC0 ht) (hS.later hW) hmq (by omega) hz);rw[ht]at HK1;rw[hnm]at HK2;clear h ht hS hnm hl hz;generalize wM nm ss back fs=R at *;have HBX:Hid (Below w.heap.size w (w.alloc (.cells #[.slice A n c] 26))):=Below.new _ _;go_enter Tryz.func176,Tryz.ntmps176;go_wp2_with fail;refine(HK1.out _ HBX.out).mono ?_;rintro e w1 ⟨rfl,hb1⟩;have HB1:=zh (HBX.out.later hb1);have p0:=(Blk.later (heap_alloc_new w (.cells #[.slice A n c] 26)) hb1 (by simp)).cell 0;simp at p0;clear hb1;go_wp2_with fail;refine(HK2.out _).mono ?_;rintro e w2 ⟨rfl,rfl⟩;go_wp2_with fail;refine(HK3.out _ HB1.out).mono ?_;rintro e w3 ⟨rfl,hb3⟩;have HB3:=zh (HB1.out.later hb3);have p3:=cell_later hb3 p0;clear hb3 p0;go_wp2_with fail;refine(HK4.out _ HB3.out).mono ?_;rintro e w4 ⟨rfl,hb4⟩;have HB4:=zh (HB3.out.later hb4);clear hb4;go_wp2_with fail;go_ret;exact⟨rfl,HB4.out⟩
set_option maxRecDepth 100000 in
theorem zFH (A:Option Addr) (n c:Nat) (fs:List NodeD) (nm:ByteArray) (S:Option Addr) (m q:Nat) (ss:List ByteArray) (w:World) (h:Nodes w w.heap.size A n fs) (ht:xA fs=true) (hS:Strs w w.heap.size S m ss) (hm:m≤1048576) (hth:wD nm ss=true) (hns:nm.size≤1048576) (hz:∀s∈ss,s.size≤1048576) :
 Calls Tryz.prog 41 #[.agg #[.slice A n c],.string nm,.slice S m q] w fun e w'=>e=.returned (.tuple #[.string (zAA fs nm ss),.bool (wJ fs nm ss)])∧Below w.heap.size w w':=by
 have HK1:=zh (fun W (hW:Below w.heap.size w W)=>vF A n c fs W (h.later hW) (zC0 ht));have HK2:=zh (fun W (hW:Below w.heap.size w W)=>xK nm S m q ss W hns (hS.later hW) hm hz);have HK3:=zh (fun W (hW:Below w.heap.size w W)=>zEB A n c fs nm S m q ss W (h.later hW) (zC0 ht) (hS.later hW) hm hz);have HN:=zh h;have hlt:wJ fs nm ss=true→atN fs nm ss<n:=fun hh=>by rw[←h.1];exact zIl hh
 have hn:n≤120:=by rw[←h.1];exact(tree_iff.1 ht).1
 have HG:Hid (zAA fs nm ss=if wJ fs nm ss=true then (fs.getD (atN fs nm ss) default).val else ⟨#[]⟩):=rfl;rw[ht]at HK1;rw[hth]at HK2;clear h ht hS hth hz;generalize zAA fs nm ss=R at *;generalize atN fs nm ss=x at *;generalize wJ fs nm ss=y at *;have HBX:Hid (Below w.heap.size w (w.alloc (.cells #[.slice A n c] 26))):=Below.new _ _;go_enter Tryz.func41,Tryz.ntmps41;go_wp2_with fail;refine(HK1.out _ HBX.out).mono ?_;rintro e w1 ⟨rfl,hb1⟩;have HB1:=zh (HBX.out.later hb1);have p0:=(Blk.later (heap_alloc_new w (.cells #[.slice A n c] 26)) hb1 (by simp)).cell 0;simp at p0;clear hb1;go_wp2_with fail;refine(HK2.out _ HB1.out).mono ?_;rintro e w2 ⟨rfl,rfl⟩;go_wp2_with fail;refine(HK3.out _ HB1.out).mono ?_;rintro e w3 ⟨rfl,hb3⟩;have HB3:=zh (HB1.out.later hb3);have p3:=cell_later hb3 p0;clear hb3 p0;cases y
 · have HE:Hid (R=⟨#[]⟩):=HG.out;go_wp2_with fail
   go_ret2
   exact⟨by rw[HE.out];rfl,HB3.out⟩
 · have hxn:=hlt rfl;have HE:Hid (R=(fs.getD x default).val):=HG.out;obtain⟨bb,o,rfl,hbB,hc⟩:=(HN.out.later HB3.out).2 (by omega);obtain⟨c0,c1,c2,k0,k1,k2,hr⟩:=hc x hxn;obtain⟨_,_,rfl⟩:=hr;clear hc hlt k0 k1;generalize (fs.getD x default).val=vl at *;go_wp2_with fail
   first
     | (go_ret2
        exact⟨by rw[HE.out];rfl,HB3.out⟩)
     | (go_quiet (fail)
        go_wp2_with fail
        go_ret2
        exact⟨by rw[HE.out];rfl,vA HB3.out _⟩)
end Go.Proofs.YtgmaamnofhmecaaGreatDoor
