import Derived.Test.YtgmaamnofhmecaaGreatDoorY41
import Derived.Test.YtgmaamnofhmecaaGreatDoorY13
set_option linter.unusedSimpArgs false
set_option maxHeartbeats 8000000
open Go.Lib renaming hid → zh
namespace Go.Proofs.YtgmaamnofhmecaaGreatDoor
open Go.RowKit
set_option linter.unusedVariables false
set_option maxRecDepth 100000 in
theorem zBZ (A:Option Addr) (n c:Nat) (L:Option Addr) (m q:Nat) (A':Option Addr) (n' c':Nat) (fs:List NodeD) (l:List BatD) (gs:List NodeD) (w:World) (hN:Nodes w w.heap.size A n fs) (hnc:n≤c) (hs:yC fs) (hcl:uE fs) (hL:Bats w w.heap.size L m l) (hok:zID l) (hce:∀b∈l,zAY b.evs) (hN':Nodes w w.heap.size A' n' gs) (hs':yC gs) :
 Calls Tryz.prog 22 #[.agg #[.slice A n c],.slice L m q,.agg #[.slice A' n' c']] w fun e w'=>e=.returned (.bool (serB fs l gs))∧Below w.heap.size w w':=by
 have HK1:=zh (fun W (hW:Below w.heap.size w W)=>vF A n c fs W (hN.later hW) hs);have HK2:=zh (fun W (hW:Below w.heap.size w W)=>zIH L m q l W (hL.later hW) hok);have HK3:=zh (fun W (hW:Below w.heap.size w W)=>vF A' n' c' gs W (hN'.later hW) hs');have HK4:=zh (fun (ht:xA fs=true) (hb:batsB l=true) W (hW:Below w.heap.size w W)=>zFj A n c L m q fs l W (hN.later hW) hnc ht hcl (hL.later hW) (by rw[←hL.1];exact(zAJ hb).1) (fun b hbm=>⟨((zAJ hb).2 b hbm).2,fun e he=>⟨((hok.2 b hbm).2 e he).1,hce b hbm e he⟩⟩));have HK5:=zh (fun A1 n1 c1 hs1 W (hW:Below w.heap.size w W) (h1:Nodes W W.heap.size A1 n1 (vM fs l 0).2.2)=>zCa A1 A' n1 c1 n' c' (vM fs l 0).2.2 gs W h1 (hN'.later hW) hs1 hs');have HTR:=zh (fun (ht:xA fs=true) (hb:batsB l=true) (h0:(vM fs l 0).1=0)=>zC0 (zDT l fs 0 ht (fun b hbm=>((zAJ hb).2 b hbm).2) h0));have HN:=zh hN;have HNC:=zh hnc;have HR:Hid (serB fs l gs=(xA fs&&(batsB l&&(xA gs&&(decide ((vM fs l 0).1=0)&&decide ((vM fs l 0).2.2=gs)))))):=rfl;clear hN hnc hs hcl hL hok hce hN' hs';generalize serB fs l gs=R at *;generalize hx:xA fs=x at *;generalize hy:batsB l=y at *;generalize hz:xA gs=z at *;generalize vM fs l 0=P at *;obtain⟨r1,r3,r2⟩:=P;generalize hsm:decide (r2=gs)=sm at *;have HX:=zh hx;have HY:=zh hy;clear hx hy hz hsm;obtain⟨WB,hWB⟩:∃WB,WB=(w.alloc (.cells #[.slice A n c] 26)).alloc (.cells #[.slice A' n' c'] 26):=⟨_,rfl⟩;have HB0:Hid (Below w.heap.size w WB):=by subst hWB;exact(Below.new _ _).later (Below.new _ _)
 have HX0:Hid (Blk WB w.heap.size 26 #[.slice A n c]):=by subst hWB;exact uD _ _ _
 have HY0:Hid (Blk WB (w.heap.size+1) 26 #[.slice A' n' c']):=by subst hWB;exact xD _ _ _
 have p0:=HX0.out.cell 0;have p1:=HY0.out.cell 0;simp at p0 p1;go_enter Tryz.func22,Tryz.ntmps22;go_wp2_with fail;rw[←hWB];clear hWB;refine(HK1.out _ HB0.out).mono ?_;rintro e w1 ⟨rfl,hb1⟩;have HB1:=zh hb1;have q0:=cell_later hb1 p0;have q1:=cell_later hb1 p1;clear hb1 p0 p1;cases x
 · go_wp2_with fail;go_ret;exact⟨zA0 (by rw[HR.out];rfl),HB0.out.later HB1.out⟩
 rw[Bool.true_and]at HR;go_wp2_with fail;refine(HK2.out _ (HB0.out.later HB1.out)).mono ?_;rintro e w2 ⟨rfl,hb2⟩;have HB2:=zh (HB1.out.later hb2);have p0:=cell_later hb2 q0;have p1:=cell_later hb2 q1;clear hb2 q0 q1;cases y
 · go_wp2_with fail;go_ret;exact⟨zA0 (by rw[HR.out];rfl),HB0.out.later HB2.out⟩
 rw[Bool.true_and]at HR;go_wp2_with fail;refine(HK3.out _ (HB0.out.later HB2.out)).mono ?_;rintro e w3 ⟨rfl,hb3⟩;have HB3:=zh (HB2.out.later hb3);have q0:=cell_later hb3 p0;have q1:=cell_later hb3 p1;clear hb3 p0 p1;cases z
 · go_wp2_with fail;go_ret;exact⟨zA0 (by rw[HR.out];rfl),HB0.out.later HB3.out⟩
 rw[Bool.true_and]at HR;go_wp2_with fail;refine(HK4.out (by first | trivial | exact HX.out) (by first | trivial | exact HY.out) _ (HB0.out.later HB3.out)).mono ?_;rintro e w4 ⟨v4,rfl,hN4,hb4⟩;obtain⟨A4,cap4,rfl,hcap4,hNN4⟩:=hN4.reads (HN.out.later (HB0.out.later HB3.out)) HNC.out hb4;have HB4:=zh (HB3.out.later hb4);have HN4:=zh hNN4;have p1:=cell_later hb4 q1;have h4z:w.heap.size+1<w4.heap.size:=Nat.lt_of_lt_of_le HY0.out.lt HB4.out.size;clear hb4 hN4 hNN4 q0 q1;by_cases h0:r1=0
 · have HK5':=zh (fun W (hW:Below w.heap.size w W) (h1:Nodes W W.heap.size A4 r2.length r2)=>HK5.out A4 r2.length cap4 (HTR.out (by first | trivial | exact HX.out) (by first | trivial | exact HY.out) h0) W hW h1);have HE:Hid (R=sm):=by unfold Hid;rw[HR.out,decide_eq_true h0,Bool.true_and]
   subst h0;go_wp2_with fail;refine(HK5'.out _ ((HB0.out.later HB4.out).later (Below.new _ _)) (HN4.out.later (Below.new _ _))).mono ?_;rintro e w5 ⟨rfl,hb5⟩;have HB5:=zh ((HB4.out.later (Below.new _ _)).later hb5);clear hb5;go_wp2_with fail;go_ret;exact⟨zA0 HE.out.symm,HB0.out.later HB5.out⟩
 · have HE:Hid (R=false):=by unfold Hid;rw[HR.out,decide_eq_false h0];rfl
   have hb0:(r1==(0:Int))=false:=beq_eq_false_iff_ne.2 h0;clear h0;go_wp2_with fail;go_ret;exact⟨zA0 HE.out.symm,(HB0.out.later HB4.out).later (Below.new _ _)⟩
end Go.Proofs.YtgmaamnofhmecaaGreatDoor
namespace Go.Proofs.YtgmaamnofhmecaaGreatDoor
open Go.RowKit
set_option linter.unusedVariables false
def zDW (d:NodeD) (w:World) (e:Ending) (w':World):Prop:=∃v,e=.returned (.agg #[.string d.name,v,.string d.val])∧Own.SubO w' w.heap.size v d.subs∧Below w.heap.size w w'
theorem zKN {X:World} {B p q:Nat} {v a b c u:Value} {ss:List ByteArray} {cs0 cs1 cs2:Array Value} (h:Own.SubO X B v ss) (h1:Blk (X.setCell ⟨p,1,none⟩ u) p 102 cs1) (h0:Blk X p 102 cs0) (h2:Blk X q 102 cs2) (hpq:q≠p) :
 Own.SubO ((((X.setCell ⟨p,1,none⟩ u).setCell ⟨q,0,none⟩ a).setCell ⟨q,1,none⟩ b).setCell ⟨q,2,none⟩ c) B v ss:=by
 have k0:=Own.SubO.setBlk (u:=u) (i:=1) h h0 (by decide);have g1:Blk (X.setCell ⟨p,1,none⟩ u) q 102 cs2:=h2.far (p:=⟨p,1,none⟩) hpq u;have k1:=Own.SubO.setBlk (u:=a) (i:=0) k0 g1 (by decide);have g2:=g1.set_ 0 a;have k2:=Own.SubO.setBlk (u:=b) (i:=1) k1 g2 (by decide);have g3:=g2.set_ 1 b;exact Own.SubO.setBlk (u:=c) (i:=2) k2 g3 (by decide)
theorem zJy {X w:World} {p q:Nat} {a b c u:Value} (h:Below w.heap.size w X) (hp:w.heap.size≤p:=by omega) (hq:w.heap.size≤q:=by omega) :
 Below w.heap.size w ((((X.setCell ⟨p,1,none⟩ u).setCell ⟨q,0,none⟩ a).setCell ⟨q,1,none⟩ b).setCell ⟨q,2,none⟩ c) :=
 (((h.setCell (p:=⟨p,1,none⟩) hp u).setCell (p:=⟨q,0,none⟩) hq a).setCell (p:=⟨q,1,none⟩) hq b).setCell (p:=⟨q,2,none⟩) hq c
set_option maxRecDepth 100000 in
theorem zFt (c0 c1 c2:Value) (d:NodeD) (w:World) (h:NodeR w w.heap.size c0 c1 c2 d) (hsm:d.subs.length≤1048576) :
 Calls Tryz.prog 153 #[.agg #[c0,c1,c2]] w (zDW d w):=by
 obtain⟨rfl,⟨S,m,q,rfl,hs,hmq⟩,rfl⟩:=h;have hm:m≤1048576:=by rw[←hs.1];exact hsm
 have HK:=zh (fun W (hW:Below w.heap.size w W)=>zV0 S m q d.subs W (hs.later hW) hm);clear hs hsm;unfold zDW;generalize d.name=nm at *;generalize d.val=vl at *;obtain⟨WB,hWB⟩:∃WB,WB=(w.alloc (.cells #[.string nm,.slice S m q,.string vl] 102)).alloc (.cells #[.string ⟨#[]⟩,.slice none 0 0,.string ⟨#[]⟩] 102):=⟨_,rfl⟩;have HB0:Hid (Below w.heap.size w WB):=by subst hWB;exact(Below.new _ _).later (Below.new _ _)
 have HE0:Hid (Blk WB w.heap.size 102 #[.string nm,.slice S m q,.string vl]):=by subst hWB;exact uD _ _ _
 have HE1:Hid (Blk WB (w.heap.size+1) 102 #[.string ⟨#[]⟩,.slice none 0 0,.string ⟨#[]⟩]):=by subst hWB;exact xD _ _ _
 have p2:=HE0.out.cell 1;simp at p2;go_enter Tryz.func153,Tryz.ntmps153;go_wp2_with fail;rw[←hWB];clear hWB;refine(HK.out _ HB0.out).mono ?_;rintro e w1 ⟨v1,rfl,ho1,hb1⟩;have HB1:=zh (HB0.out.later hb1);have HF0:=zh (HE0.out.later hb1 HE0.out.lt);have HF1:=zh (HE1.out.later hb1 HE1.out.lt);have HO1:=zh (Own.own_base ho1 HB0.out.size);obtain⟨A1,m1,q1,rfl⟩:∃A1 m1 q1,v1=.slice A1 m1 q1:=by obtain⟨A,cap,e,_⟩:=Own.own_slice ho1;exact⟨A,_,cap,e⟩
 have r0:=HF0.out.cell 0;have r1:=HF0.out.cell 1;have r2:=HF0.out.cell 2;have rf:=HF0.out.frozen 1;have rz:=HF0.out.lt;have y0:=HF1.out.cell 0;have y1:=HF1.out.cell 1;have y2:=HF1.out.cell 2;have yf0:=HF1.out.frozen 0;have yf1:=HF1.out.frozen 1;have yf2:=HF1.out.frozen 2;have yz:=HF1.out.lt;simp at r0 r1 r2 y0 y1 y2;clear hb1 ho1 p2;go_wp2_with fail;refine bodyPost_ret (v:=.agg #[.string nm,.slice A1 m1 q1,.string vl]) (by simp[results,Tryz.results153,go_sem,y0,y1,y2]) rfl ?_;refine⟨_,rfl,?_,?_⟩
 · exact zKN HO1.out (HF0.out.set_ 1 _) HF0.out HF1.out (by omega)
 · exact zJy HB1.out
set_option maxRecDepth 100000 in
theorem zBJ (A:Option Addr) (n c:Nat) (fs:List NodeD) (w:World) (h:Nodes w w.heap.size A n fs) (hs:yC fs) :
 Calls Tryz.prog 79 #[.agg #[.slice A n c]] w (zGQ fs w):=by
 obtain⟨i0,hi,hz0,hz1,hz2⟩:=info_parts zS0;have Hh:=zh h;have Hlen:=zh h.1;have Hsm:=zh hs.2;have hn:n≤1048576:=by rw[←h.1];exact hs.1
 clear h hs;have HB0:Hid (Below w.heap.size w (((w.alloc (.cells #[.slice A n c] 26)).alloc (.cells #[.slice none 0 0] 26)).alloc (.cells #[.slice none 0 0] 26))):=zM0 w _ _ _;have HY0:Hid (Blk (((w.alloc (.cells #[.slice A n c] 26)).alloc (.cells #[.slice none 0 0] 26)).alloc (.cells #[.slice none 0 0] 26)) (w.heap.size+1) 26 #[.slice none 0 0]):=wO _ _ _ _;have HV0:Hid (Blk (((w.alloc (.cells #[.slice A n c] 26)).alloc (.cells #[.slice none 0 0] 26)).alloc (.cells #[.slice none 0 0] 26)) (w.heap.size+1+1) 26 #[.slice none 0 0]):=yS _ _ _ _;go_enter Tryz.func79,Tryz.ntmps79;go_wp2_with fail;go_loopw [10] (fun i wr=>∃(k:Nat) (v:Value),k≤n∧i=.int .i64 k∧Hid (Blk wr (w.heap.size+1) 26 #[.slice none 0 0])∧Hid (Blk wr (w.heap.size+1+1) 26 #[v])∧Hid (NodesO wr w.heap.size v (fs.take k))∧Hid (Below w.heap.size w wr)) (fun i _=>n-(intOf i).toNat);case atStart=>exact⟨0,_,Nat.zero_le _,rfl,HY0.out,HV0.out,by unfold Hid;rw[List.take_zero];exact wI _ _,HB0.out⟩
 case round =>
  obtain⟨k,v,hk,rfl,HY,HV,⟨vs,ho⟩,HB⟩:=hrel;have HO:=zh ho;clear ho;clear HB0 HY0 HV0;by_cases hlt:k<n
  · have hl:k<fs.length:=by rw[Hlen.out];exact hlt
    obtain⟨bb,o,rfl,hbB,hcn⟩:=(Hh.out.later HB.out).2 (by omega);obtain⟨c0,c1,c2,k0,k1,k2,hr⟩:=hcn k hlt;clear hcn;have hsd:=Hsm.out _ (zE0 fs k hl);have HT:Hid (fs.take (k+1)=fs.take k++[fs.getD k default]):=by unfold Hid;rw[List.take_succ_eq_append_getElem hl,List.getD_eq_getElem?_getD,List.getElem?_eq_getElem hl,Option.getD_some]
    have htl:(fs.take k).length=k:=by rw[List.length_take];omega
    have hrw:=HO.out.row;rw[htl]at hrw;obtain⟨g,cap,rfl,_,_,_⟩:=Own.own_slice hrw;have HRW:=zh hrw;have HTL:=zh htl;clear htl hrw;generalize fs.getD k default=d at *;have HKC:=zh (fun W (hW:Below wr.heap.size wr W)=>zFt c0 c1 c2 d W (hr.later hW) hsd.2.1.1);obtain⟨rfl,⟨A1,n1,p1,rfl,_,_⟩,rfl⟩:=hr;unfold zDW at HKC;generalize hdn:d.name=dn at *;generalize hdv:d.val=dv at *;have HDN:=zh hdn;have HDV:=zh hdv;clear hsd hdn hdv;have hbBz:bb<wr.heap.size:=hbB;go_wp2_with fail;obtain⟨V,hV⟩:∃V,V=wr.alloc (.cells #[.string dn,.slice A1 n1 p1,.string dv] 102):=⟨_,rfl⟩;have HBV:Hid (Below wr.heap.size wr V):=by subst hV;exact Below.new _ _
    have HN5:Hid (Blk V wr.heap.size 102 #[.string dn,.slice A1 n1 p1,.string dv]):=by subst hV;exact heap_alloc_new _ _
    rw[←hV];clear hV;have n0:=HN5.out.cell 0;have n1':=HN5.out.cell 1;have n2:=HN5.out.cell 2;have HVV:=zh (HV.out.later HBV.out HV.out.lt);have pv:=HVV.out.cell 0;have zv:=HVV.out.lt;have fv:=HVV.out.frozen 0;have hwz:=HB.out.size;have hvz:=HBV.out.size;simp at n0 n1' n2 pv;clear k0 k1 k2
    go_region_law (first
     | (refine step_append_lies _ (by rfl) _ _ _ (by rfl) w.heap.size 102 i0 _ 3 56 Tryz.underlying24 hi hz0 hz1 hz2 rfl (by omega) (.slice g k cap) k (Own.flat zBA (fs.take k) vs) (by rfl) (by exact HRA.out)
         ⟨w4.heap.size,0,none⟩ 1 1 [.string dn,.slice A2 m2 c2,.string dv] (by rfl) (by rfl) (by exact uL w4 #[.string dn,.slice A2 m2 c2,.string dv] _) (by simp[Value.oneCell'])
         (by omega) (by unfold maxLen;omega) (by omega) (by simp;omega) (w4.heap.size+1) (by simp) ?_
        intro gg cap' w5 hown5 hgrow5 hat hlt2;have hbg:=(HV4.out.alloc (.cells #[.string dn,.slice A2 m2 c2,.string dv] 102)).grown hgrow5 (fun e=>Own.own_blk_ne HRA.out (HV4.out.alloc _) (by decide) e.symm);have pv5:=hbg.cell;have fv5:=hbg.frozen;have zv5:=hbg.lt;have HBG:=zh hbg;have HOW:=zh hown5;have HGR:=zh hgrow5
        clear hown5 hgrow5 hbg)
     | (go_simp
        go_at_call 153;refine(HKC.out _ (by exact HBV.out.drew)).mono ?_;rintro e w4 ⟨v2,rfl,hs2,hb4'⟩;have hb4:=zD0 hb4';obtain⟨A2,m2,c2,rfl⟩:∃A2 m2 c2,v2=.slice A2 m2 c2:=by obtain⟨A,cap,e,_⟩:=Own.own_slice hs2;exact⟨A,_,cap,e⟩
        have HS2:=zh hs2;have HB4:=zh (HBV.out.later hb4);have HV4:=zh (HVV.out.later hb4 HVV.out.lt);have pv4:=HV4.out.cell 0;have zv4:=HV4.out.lt;have fv4:=HV4.out.frozen 0;simp at pv4;have hsz4:=hb4.size;have HRA:=zh (Own.own_later (Own.own_later HRW.out HB4.out) (Below.new w4 (.cells #[.string dn,.slice A2 m2 c2,.string dv] 102)))
        clear hb4 hb4' hs2))
    all_goals
     have HN4:=zh (HB4.out.later (Below.new w4 (.cells #[.string dn,.slice A2 m2 c2,.string dv] 102)));have HY4:=zh ((HY.out.later HN4.out HY.out.lt).grown HGR.out (fun e=>Own.own_blk_ne HRA.out (HY.out.later HN4.out HY.out.lt) (by decide) e.symm));have HN5:Hid (Below w.heap.size w w5):=((HB.out.later HN4.out)).grown HGR.out (by simp;omega) (fun g' hg'=>(World.ownsRow.lt HRA.out g' hg').1);have HO5:Hid (Own.OwnL zBA w5 w.heap.size 102 (.slice (some ⟨gg,0,none⟩) (k+1) cap') (fs.take (k+1)) (vs++[.slice A2 m2 c2])):=by unfold Hid;rw[HT.out];refine Own.OwnL.snoc (HO.out.later HN4.out) (Own.own_later (Own.own_base HS2.out (by simp;omega)) (Below.new _ _)) (HO.out.fresh HS2.out (by simp;omega)) ?_ (by first | exact HGR.out | (rw[HTL.out];exact HGR.out)) (by decide);rw[HTL.out];have hx:=HOW.out;rw[←HDN.out,←HDV.out]at hx;exact hx
     clear n0 n1' n2 pv4 pv;go_wp2_with fail;go_roundw;case rel=>exact⟨k+1,_,by omega,by go_num,HY4.out.far (show w.heap.size+1≠w.heap.size+1+1 by omega) _,HBG.out.set_ 0 _,NodesO.setBlk ⟨_,HO5.out⟩ HBG.out (by decide) (by decide),HN5.out.setCell (show w.heap.size≤w.heap.size+1+1 by omega) _⟩
     case measure=>simp[intOf];omega
  · have ht:fs.take k=fs:=List.take_of_length_le (by rw[Hlen.out];omega);have HO2:Hid (Own.OwnL zBA wr w.heap.size 102 v fs vs):=by have h2:=HO.out;rwa [ht]at h2
    obtain⟨A3,cap3,rfl,_,_⟩:=NodesO.reads ⟨vs,HO2.out⟩;have pv:=HV.out.cell 0;have zv:=HV.out.lt;have fv:=HV.out.frozen 0;have py:=HY.out.cell 0;have zy:=HY.out.lt;have fy:=HY.out.frozen 0;simp at pv py;go_wp2_with fail;refine bodyPost_ret (v:=.agg #[.slice A3 _ cap3]) (by simp[results,Tryz.results79,go_sem,py];try rfl) rfl ?_;exact⟨_,rfl,NodesO.setBlk ⟨vs,HO2.out⟩ HY.out (by decide) (by decide),HB.out.setCell (show w.heap.size≤w.heap.size+1 by omega) _⟩
end Go.Proofs.YtgmaamnofhmecaaGreatDoor
namespace Go.Proofs.YtgmaamnofhmecaaGreatDoor
open Go.RowKit
theorem zDb {zero:Array Value} {m:Nat} {u:Value} (h:u∈(Builtin.zeroCells zero m).toList):u∈zero.toList:=by
 unfold Builtin.zeroCells at h;simp only[Array.toList_map,List.mem_map]at h;obtain⟨i,hi,rfl⟩:=h;have hi':i<m*zero.size:=by simpa using hi
 have hz:0<zero.size:=by
  rcases Nat.eq_zero_or_pos zero.size with e | e
  · rw[e]at hi';omega
  · exact e
 rw[getElem!_pos zero _ (Nat.mod_lt _ hz)];simp
theorem zJg (w:World):(zeroValue 102).run Tryz.prog w=.ok (.agg #[.string .empty,.slice none 0 0,.string .empty]) w:=by kernel_rfl
end Go.Proofs.YtgmaamnofhmecaaGreatDoor
