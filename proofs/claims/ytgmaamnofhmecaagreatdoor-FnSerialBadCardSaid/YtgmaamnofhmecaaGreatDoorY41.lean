import Derived.Test.YtgmaamnofhmecaaGreatDoorY40
import Derived.Test.YtgmaamnofhmecaaGreatDoorY15
set_option linter.unusedSimpArgs false
set_option maxHeartbeats 8000000
open Go.Lib renaming hid → zh
namespace Go.Proofs.YtgmaamnofhmecaaGreatDoor
open Go.RowKit
set_option linter.unusedVariables false
theorem TreeW.comp {v0:Value} {fs0:List NodeD} {base b2:Nat} {w w':World} {v v':Value} {gs gs':List NodeD} (h:TreeW v0 fs0 base w v gs) (h2:TreeW v gs b2 w' v' gs') (hb:Below w.heap.size w w') (hbase:base≤b2):TreeW v0 fs0 base w' v' gs':=by
 rcases h2 with ⟨rfl,rfl⟩ | h2
 · exact h.later hb
 · exact .inr (h2.base hbase)
set_option maxRecDepth 100000 in
theorem zFj (A:Option Addr) (n c:Nat) (L:Option Addr) (m q:Nat) (fs:List NodeD) (l:List BatD) (w:World) (hN:Nodes w w.heap.size A n fs) (hnc:n≤c) (ht:xA fs=true) (hcl:uE fs) (hL:Bats w w.heap.size L m l) (hm:m≤400) (hall:∀b∈l,notesB b.evs=true∧∀e∈b.evs,e.small∧zCh e) :
 Calls Tryz.prog 77 #[.agg #[.slice A n c],.slice L m q] w (zJW (.slice A n c) fs (vM fs l 0) w):=by
 have HN:=zh hN;have HLC:=zh hL;have HLL:=zh hL.1;have HAL:=zh hall;have HT0:=zh ht;have HC0:=zh hcl;have HNC:=zh hnc;have HPB0:Hid (vM fs l 0=vM fs l 0):=rfl;clear hN hnc ht hcl hL hall;generalize hPB:vM fs l 0=PB at *;clear HPB0;obtain⟨WB,hWB⟩:∃WB,WB=(w.alloc (.cells #[.slice A n c] 26)).alloc (.cells #[.slice none 0 0] 26):=⟨_,rfl⟩;have HB0:Hid (Below w.heap.size w WB):=by subst hWB;exact(Below.new _ _).later (Below.new _ _)
 have HX0:Hid (Blk WB w.heap.size 26 #[.slice A n c]):=by subst hWB;exact uD _ _ _
 have HY0:Hid (Blk WB (w.heap.size+1) 26 #[.slice none 0 0]):=by subst hWB;exact xD _ _ _
 have HPB:=zh hPB;clear hPB;go_enter Tryz.func77,Tryz.ntmps77;go_wp2_with fail;rw[←hWB];clear hWB;go_loopw [7] (fun i wr=>∃(k:Nat) (v:Value) (gs:List NodeD),k≤m∧i=.int .i64 k∧Hid (Blk wr w.heap.size 26 #[v])∧Hid (Blk wr (w.heap.size+1) 26 #[.slice none 0 0])∧Hid (TreeW (.slice A n c) fs w.heap.size wr v gs)∧Hid (xA gs=true)∧Hid (uE gs)∧Hid (Below w.heap.size w wr)∧Hid (PB=vM gs (l.drop k) k)) (fun i _=>m-(intOf i).toNat);case atStart=>exact⟨0,_,fs,Nat.zero_le _,rfl,HX0.out,HY0.out,.inl ⟨rfl,rfl⟩,HT0.out,HC0.out,HB0.out,by unfold Hid;rw[List.drop_zero];exact HPB.out.symm⟩
 case round =>
  obtain⟨k,v,gs,hk,rfl,HV,HYR,HTW,HTG,HCG,HBW,HPK⟩:=hrel;obtain⟨A3,cap3,rfl,hc3,hN3⟩:=HTW.out.reads HN.out HNC.out HBW.out;have pv:=HV.out.cell 0;have zv:=HV.out.lt;have fv:=HV.out.frozen 0;have py:=HYR.out.cell 0;have zy:=HYR.out.lt;have fy:=HYR.out.frozen 0;simp at pv py;clear HX0 HY0 HB0;by_cases hlt:k<m
  · obtain⟨bb,o,rfl,hbB,hc⟩:=(HLC.out.later HBW.out).2 (by omega);obtain⟨c0,c1,k0,k1,hr⟩:=hc k hlt;clear hc;have hl:k<l.length:=by rw[HLL.out];exact hlt
    obtain⟨hnote,hsd⟩:=HAL.out _ (uC l k hl);have hda:=uO l k hl;generalize l.getD k default=d at *;obtain⟨rfl,S,m1,q1,rfl,hev,hmq1⟩:=hr;have HDA:Hid (PB=if (yI gs d.evs 0).1=0 then vM (yI gs d.evs 0).2.2 (l.drop (k+1)) (k+1) else ((yI gs d.evs 0).1,k,[])):=by unfold Hid;rw[HPK.out,hda];rfl
    have HDT:Hid ((yI gs d.evs 0).1=0→xA (yI gs d.evs 0).2.2=true):=zBx d.evs gs 0 HTG.out (uR hnote).2;have HDC:Hid (uE (yI gs d.evs 0).2.2):=zCg d.evs gs 0 HCG.out (fun e he=>(hsd e he).2);have HKT:=zh (fun W (hW:Below wr.heap.size wr W)=>zEe A3 gs.length cap3 S m1 q1 gs d.evs W (hN3.later hW) hc3 HTG.out HCG.out (hev.later hW) (by rw[←hev.1];exact(uR hnote).1) (fun e he=>⟨(uR hnote).2 e he,hsd e he⟩));clear hda hsd hnote hev hN3;generalize yI gs d.evs 0=R at *;obtain⟨r1,r3,r2⟩:=R;have hxx:w.heap.size≠w.heap.size+1:=by omega
    go_wp2_with fail
    go_region_law (first
     | (go_simp
        go_at_call 89;refine(HKT.out _ (by exact(Below.refl _ _).drew)).mono ?_;rintro e w4 ⟨v4,rfl,hN4',hb4'⟩;have hb4:=zD0 hb4';have hN4:=HTW.out.comp hN4' hb4 (by simpa using HBW.out.size);obtain⟨A4,cap4,rfl,hcap4,_⟩:=hN4.reads HN.out HNC.out (HBW.out.later hb4);have HW:=zh (Below.new w4 (.cells #[.slice A4 r2.length cap4] 26));have H8X:Hid (Blk (w4.alloc (.cells #[.slice A4 r2.length cap4] 26)) w4.heap.size 26 #[.slice A4 r2.length cap4]):=heap_alloc_new _ _;have HVX:=zh ((HV.out.later hb4 HV.out.lt).alloc (.cells #[.slice A4 r2.length cap4] 26));have HYX:=zh ((HYR.out.later hb4 HYR.out.lt).alloc (.cells #[.slice A4 r2.length cap4] 26));have HNX:=zh (hN4.later HW.out);have HBX:=zh ((HBW.out.later hb4).later HW.out);have z8:=H8X.out.lt
        clear hb4 hb4' hN4 hN4')
     | (go_simp
        go_at_call 89;refine(HKT.out _ (by exact(Below.new _ _).drew)).mono ?_;rintro e w4 ⟨v4,rfl,hN4',hb4'⟩;have hb4:=zD0 hb4';have hbW:=(Below.new wr (.cells #[.slice none 0 0] 26)).later hb4;have hN4:=HTW.out.comp hN4' hbW (by have:=HBW.out.size;simp;omega);obtain⟨A4,cap4,rfl,hcap4,_⟩:=hN4.reads HN.out HNC.out (HBW.out.later hbW);have h8:Blk w4 wr.heap.size 26 #[.slice none 0 0]:=Blk.later (heap_alloc_new wr _) hb4 (by simp);have p8:=h8.cell 0;have f8:=h8.frozen 0;have z8:=h8.lt;simp at p8;have H8X:Hid (Blk (w4.setCell ⟨wr.heap.size,0,none⟩ (.slice A4 r2.length cap4)) wr.heap.size 26 #[.slice A4 r2.length cap4]):=h8.set_ 0 _;have HVX:=zh ((HV.out.later hbW HV.out.lt).far (p:=⟨wr.heap.size,0,none⟩) (show w.heap.size≠wr.heap.size by omega) (.slice A4 r2.length cap4));have HYX:=zh ((HYR.out.later hbW HYR.out.lt).far (p:=⟨wr.heap.size,0,none⟩) (show w.heap.size+1≠wr.heap.size by omega) (.slice A4 r2.length cap4));have HNX:=zh (hN4.setBlk (i:=0) (u:=.slice A4 r2.length cap4) h8 (by decide) (by decide));have HBX:=zh ((HBW.out.later hbW).setCell (p:=⟨wr.heap.size,0,none⟩) HBW.out.size (.slice A4 r2.length cap4))
        clear hb4 hb4' hN4 hN4' h8 hbW))
    all_goals
     have p8:=H8X.out.cell 0;have z8:=H8X.out.lt;have pv:=HVX.out.cell 0;have fv:=HVX.out.frozen 0;have zv:=HVX.out.lt;have py:=HYX.out.cell 0;have fy:=HYX.out.frozen 0;have zy:=HYX.out.lt;simp at p8 pv py;by_cases hr0:r1=0
     · have HE2:Hid (PB=vM r2 (l.drop (k+1)) (k+1)):=by unfold Hid;rw[HDA.out,if_pos hr0]
       have HT2:=zh (HDT.out hr0);subst hr0;go_wp2_with fail;go_roundw;case rel=>exact⟨k+1,_,r2,by omega,by go_num,HVX.out.set_ 0 _,HYX.out.far (show w.heap.size+1≠w.heap.size by omega) _,HNX.out.setBlk HVX.out (by decide) (by decide),HT2.out,HDC.out,HBX.out.setCell (show w.heap.size≤w.heap.size by omega) _,HE2.out⟩
       case measure=>simp[intOf];omega
     · have HE2:Hid (PB=(r1,k,[])):=by unfold Hid;rw[HDA.out,if_neg hr0]
       have hb0:(r1==(0:Int))=false:=by rw[beq_eq_false_iff_ne];exact hr0
       go_wp2_with fail;refine bodyPost_ret (v:=.tuple #[.agg #[.slice none 0 0],.int .i64 k,.int .i64 r1]) (by simp[results,Tryz.results77,go_sem,py]) rfl ?_;exact⟨_,by rw[HE2.out],by rw[HE2.out];exact TreeW.nil _ _ _ _,HBX.out.setCell (show w.heap.size≤w.heap.size+1 by omega) _⟩
  · obtain rfl:k=m:=by omega
    have HE2:Hid (PB=(0,0,gs)):=by unfold Hid;rw[HPK.out,List.drop_of_length_le (by rw[HLL.out];omega)];rfl
    have hxx:w.heap.size≠w.heap.size+1:=by omega
    go_wp2_with fail;refine bodyPost_ret (v:=.tuple #[.agg #[.slice A3 _ cap3],.int .i64 0,.int .i64 0]) (by simp[results,Tryz.results77,go_sem,py];try first | exact rfl | exact⟨rfl,rfl⟩) rfl ?_;exact⟨_,by rw[HE2.out];rfl,by rw[HE2.out];exact HTW.out.setBlk HYR.out (by decide) (by decide),HBW.out.setCell (show w.heap.size≤w.heap.size+1 by omega) _⟩
end Go.Proofs.YtgmaamnofhmecaaGreatDoor
namespace Go.Proofs.YtgmaamnofhmecaaGreatDoor
open Go.RowKit
set_option linter.unusedVariables false
def uN (a b:NodeD):Bool:=decide (a.name=b.name)&&(decide (a.val=b.val)&&decide (a.subs=b.subs))
theorem zHi {a b:NodeD}:uN a b=true↔a=b:=by
 unfold uN;simp only[Bool.and_eq_true,decide_eq_true_eq];exact⟨fun ⟨h0,h1,h2⟩=>NodeD.ext_ h0 h2 h1,fun h=>by subst h;simp⟩
def zCO:List NodeD→List NodeD→Bool
 | [],[]=>true
 | a::r,b::s=>uN a b&&zCO r s
 | _,_=>false
theorem zAD:∀(l m:List NodeD),zCO l m=decide (l=m)
 | [],[]=>by simp[zCO]
 | [],b::s=>by simp[zCO]
 | a::r,[]=>by simp[zCO]
 | a::r,b::s=>by unfold zCO;rw[zAD r s,Bool.eq_iff_iff,Bool.and_eq_true,zHi,decide_eq_true_eq,decide_eq_true_eq,List.cons.injEq]
theorem zEK (l m:List NodeD) (k:Nat) (h:k<l.length) (h':k<m.length):zCO (l.drop k) (m.drop k)=(uN (l.getD k default) (m.getD k default)&&zCO (l.drop (k+1)) (m.drop (k+1))):=by
 rw[uO l k h,uO m k h'];rfl
set_option maxRecDepth 100000 in
theorem zFc (c0 c1 c2 d0 d1 d2:Value) (a b:NodeD) (w:World) (h:NodeR w w.heap.size c0 c1 c2 a) (h':NodeR w w.heap.size d0 d1 d2 b) (hsa:a.subs.length≤1048576) (hsb:b.subs.length≤1048576) :
 Calls Tryz.prog 148 #[.agg #[c0,c1,c2],.agg #[d0,d1,d2]] w fun e w'=>e=.returned (.bool (uN a b))∧Below w.heap.size w w':=by
 obtain⟨rfl,⟨S,m,q,rfl,hs,hmq⟩,rfl⟩:=h;obtain⟨rfl,⟨S',m',q',rfl,hs',hmq'⟩,rfl⟩:=h';have hm:m≤1048576:=by rw[←hs.1];exact hsa
 have hm':m'≤1048576:=by rw[←hs'.1];exact hsb
 have HK:=zh (fun W (hW:Below w.heap.size w W)=>zL0 S S' m q m' q' a.subs b.subs W (hs.later hW) (hs'.later hW) hm hm');have HR:Hid (uN a b=(decide (a.name=b.name)&&(decide (a.val=b.val)&&eqS a.subs b.subs))):=rfl;clear hs hs' hsa hsb;generalize uN a b=R at *;generalize eqS a.subs b.subs=x at *;generalize a.name=an at *;generalize b.name=bn at *;generalize a.val=av at *;generalize b.val=bv at *;go_enter Tryz.func148,Tryz.ntmps148;by_cases h1:an=bn
 · subst h1;by_cases h2:av=bv
   · subst h2;have HE:Hid (R=x):=by unfold Hid;rw[HR.out];simp
     go_wp2_with fail;refine(HK.out _ ((Below.new _ _).later (Below.new _ _))).mono ?_;rintro e w1 ⟨rfl,z,rfl⟩;go_wp2_with fail;go_ret;exact⟨zA0 HE.out.symm,vA ((Below.new _ _).later (Below.new _ _)) _⟩
   · have hb2:=zG0 h2;have HE:Hid (R=false):=by unfold Hid;rw[HR.out];simp[h2]
     clear h2;go_wp2_with fail;go_ret;exact⟨zA0 HE.out.symm,(Below.new _ _).later (Below.new _ _)⟩
 · have hb1:=zG0 h1;have HE:Hid (R=false):=by unfold Hid;rw[HR.out];simp[h1]
   clear h1;go_wp2_with fail;go_ret;exact⟨zA0 HE.out.symm,(Below.new _ _).later (Below.new _ _)⟩
set_option maxRecDepth 100000 in
theorem zCN (c0 c1 c2 d0 d1 d2:Value) (a b:NodeD) (w:World) (h:NodeR w w.heap.size c0 c1 c2 a) (h':NodeR w w.heap.size d0 d1 d2 b) (hsa:a.subs.length≤1048576) (hsb:b.subs.length≤1048576) :
 Calls Tryz.prog 80 #[.agg #[c0,c1,c2],.agg #[d0,d1,d2]] w fun e w'=>e=.returned (.bool (uN a b))∧Below w.heap.size w w':=by
 obtain⟨rfl,⟨S,m,q,rfl,hs,hmq⟩,rfl⟩:=h;obtain⟨rfl,⟨S',m',q',rfl,hs',hmq'⟩,rfl⟩:=h';have hm:m≤1048576:=by rw[←hs.1];exact hsa
 have hm':m'≤1048576:=by rw[←hs'.1];exact hsb
 have HK:=zh (fun W (hW:Below w.heap.size w W)=>zAg S S' m q m' q' a.subs b.subs W (hs.later hW) (hs'.later hW) hm hm');have HR:Hid (uN a b=(decide (a.name=b.name)&&(decide (a.val=b.val)&&eqS a.subs b.subs))):=rfl;clear hs hs' hsa hsb;generalize uN a b=R at *;generalize eqS a.subs b.subs=x at *;generalize a.name=an at *;generalize b.name=bn at *;generalize a.val=av at *;generalize b.val=bv at *;go_enter Tryz.func80,Tryz.ntmps80;by_cases h1:an=bn
 · subst h1;by_cases h2:av=bv
   · subst h2;have HE:Hid (R=x):=by unfold Hid;rw[HR.out];simp
     go_wp2_with fail;refine(HK.out _ ((Below.new _ _).later (Below.new _ _))).mono ?_;rintro e w1 ⟨rfl,z,rfl⟩;go_wp2_with fail;go_ret;exact⟨zA0 HE.out.symm,vA ((Below.new _ _).later (Below.new _ _)) _⟩
   · have hb2:=zG0 h2;have HE:Hid (R=false):=by unfold Hid;rw[HR.out];simp[h2]
     clear h2;go_wp2_with fail;go_ret;exact⟨zA0 HE.out.symm,(Below.new _ _).later (Below.new _ _)⟩
 · have hb1:=zG0 h1;have HE:Hid (R=false):=by unfold Hid;rw[HR.out];simp[h1]
   clear h1;go_wp2_with fail;go_ret;exact⟨zA0 HE.out.symm,(Below.new _ _).later (Below.new _ _)⟩
def zKC (g:Nat) (lb:Array Value) (p:NodeD→NodeD→Bool) (fs gs:List NodeD) (w:World):Prop :=
 ∀a∈fs,∀b∈gs,∀c0 c1 c2 d0 d1 d2 W,Below w.heap.size w W→NodeR W W.heap.size c0 c1 c2 a→NodeR W W.heap.size d0 d1 d2 b→Calls Tryz.prog g (#[.agg #[c0,c1,c2],.agg #[d0,d1,d2]]++lb) W fun e w'=>e=.returned (.bool (p a b))∧Below W.heap.size W w'
set_option maxRecDepth 100000 in
theorem zDZ (g:Nat) (lb:Array Value) (A A':Option Addr) (n c n' c':Nat) (fs gs:List NodeD) (w:World) (h:Nodes w w.heap.size A n fs) (h':Nodes w w.heap.size A' n' gs) (hn:n≤1048576) (hn':n'≤1048576)
 (eg:∀args w,(callFunc g args).run Tryz.prog w=.ok (.enter g args) w) (hg:zKC g lb uN fs gs w) :
 Calls Tryz.prog 147 #[.slice A n c,.slice A' n' c',.func (.func g) #[] lb] w fun e w'=>e=.returned (.bool (decide (fs=gs)))∧Below w.heap.size w w':=by
 have HR:Hid (decide (fs=gs)=zCO fs gs):=(zAD fs gs).symm;have Hh:=zh h;have Hh':=zh h';have Hl:=zh h.1;have Hl':=zh h'.1;have Hg:=zh hg;clear h h' hg;generalize decide (fs=gs)=R at *;by_cases hne:n=n'
 · subst hne;have hbn:((n:Int) != (n:Int))=false:=by simp
   go_enter Tryz.func147,Tryz.ntmps147;go_wp2_with fail;go_loopw [17] (fun i wr=>∃k:Nat,k≤n∧i=.int .i64 k∧Below w.heap.size w wr∧Hid (R=zCO (fs.drop k) (gs.drop k))) (fun i _=>n-(intOf i).toNat);case atStart=>exact⟨0,Nat.zero_le _,rfl,Below.refl _ _,by unfold Hid;rw[List.drop_zero,List.drop_zero];exact HR.out⟩
   case round =>
    obtain⟨k,hk,rfl,hb,hS⟩:=hrel;have HB:=zh hb;clear hb;by_cases hlt:k<n
    · obtain⟨b,o,rfl,hbB,hcell⟩:=(Hh.out.later HB.out).2 (by omega);obtain⟨b',o',rfl,hbB',hcell'⟩:=(Hh'.out.later HB.out).2 (by omega);obtain⟨c0,c1,c2,k0,k1,k2,hr⟩:=hcell k hlt;obtain⟨d0,d1,d2,j0,j1,j2,hr'⟩:=hcell' k hlt;clear hcell hcell';have hl:k<fs.length:=by rw[Hl.out];exact hlt
      have hl':k<gs.length:=by rw[Hl'.out];exact hlt
      have HS:=zh (zEK fs gs k hl hl');have HK:=zh (fun W (hW:Below wr.heap.size wr W)=>Hg.out (fs.getD k default) (uC fs k hl) (gs.getD k default) (uC gs k hl') c0 c1 c2 d0 d1 d2 W (HB.out.later hW) (hr.later hW) (hr'.later hW));clear hl hl';generalize fs.getD k default=s at *;generalize gs.getD k default=t at *;generalize hx:uN s t=x at *;have HX:=zh hx;clear hx;obtain⟨rfl,⟨S,m,q,rfl,_,_⟩,rfl⟩:=hr;obtain⟨rfl,⟨S',m',q',rfl,_,_⟩,rfl⟩:=hr';go_wp2_with fail;refine(HK.out _ ((Below.new _ _).later (Below.new _ _))).mono ?_;rintro e w' ⟨rfl,hb1⟩;have HB1:=zh (HB.out.later (((Below.new _ _).later (Below.new _ _)).later hb1));clear hb1 j0 j1 j2 k0 k1 k2;cases x
      · go_wp2_with fail;go_ret;exact⟨zA0 (by rw[hS.out,HS.out];rfl),HB1.out⟩
      · go_wp2_with fail;go_roundw;case rel=>exact⟨k+1,by omega,by go_num,HB1.out,by unfold Hid;rw[hS.out,HS.out,Bool.true_and]⟩
        case measure=>simp[intOf];omega
    · have HE:Hid (R=true):=by unfold Hid;rw[hS.out,List.drop_of_length_le (by rw[Hl.out];omega),List.drop_of_length_le (by rw[Hl'.out];omega)];rfl
      go_wp2_with fail;go_ret;exact⟨zA0 HE.out.symm,HB.out⟩
 · have HE:Hid (R=false):=by unfold Hid;rw[HR.out,zAD];exact decide_eq_false (fun e=>hne (by rw[←Hl.out,←Hl'.out,e]))
   have hbn:((n:Int) != (n':Int))=true:=by simp;omega
   have hbn2:((n:Int)==(n':Int))=false:=by simp;omega
   go_enter Tryz.func147,Tryz.ntmps147;go_wp2_with fail;go_ret;exact⟨zA0 HE.out.symm,Below.refl _ _⟩
theorem zFD (A A':Option Addr) (n c n' c':Nat) (fs gs:List NodeD) (w:World) (h:Nodes w w.heap.size A n fs) (h':Nodes w w.heap.size A' n' gs) (hs:yC fs) (hs':yC gs) :
 Calls Tryz.prog 75 #[.agg #[.slice A n c],.agg #[.slice A' n' c']] w fun e w'=>e=.returned (.bool (decide (fs=gs)))∧Below w.heap.size w w':=by
 have eg:∀args w,(callFunc 148 args).run Tryz.prog w=.ok (.enter 148 args) w:=enters_of Tryz.func148 (by kernel_rfl) rfl;have hn:n≤1048576:=by rw[←h.1];exact hs.1
 have hn':n'≤1048576:=by rw[←h'.1];exact hs'.1
 have HK:=zh (fun W (hW:Below w.heap.size w W)=>zDZ 148 #[] A A' n c n' c' fs gs W (h.later hW) (h'.later hW) hn hn' eg (fun a ha b hb c0 c1 c2 d0 d1 d2 X hX hr hr'=>zFc c0 c1 c2 d0 d1 d2 a b X hr hr' (hs.2 a ha).2.1.1 (hs'.2 b hb).2.1.1));clear h h' hs hs' eg;generalize decide (fs=gs)=R at *;go_enter Tryz.func75,Tryz.ntmps75;go_wp2_with fail;refine(HK.out _ ((Below.new _ _).later (Below.new _ _))).mono ?_;rintro e w1 ⟨rfl,hb1⟩;have HB:=zh (((Below.new _ _).later (Below.new _ _)).later hb1);clear hb1;go_wp2_with fail;go_ret;exact⟨rfl,HB.out⟩
set_option maxRecDepth 100000 in
theorem zCa (A A':Option Addr) (n c n' c':Nat) (fs gs:List NodeD) (w:World) (h:Nodes w w.heap.size A n fs) (h':Nodes w w.heap.size A' n' gs) (hs:yC fs) (hs':yC gs) :
 Calls Tryz.prog 24 #[.agg #[.slice A n c],.agg #[.slice A' n' c']] w fun e w'=>e=.returned (.bool (decide (fs=gs)))∧Below w.heap.size w w':=by
 have hn:n≤1048576:=by rw[←h.1];exact hs.1
 have hn':n'≤1048576:=by rw[←h'.1];exact hs'.1
 have HR:Hid (decide (fs=gs)=zCO fs gs):=(zAD fs gs).symm;have Hh:=zh h;have Hh':=zh h';have Hl:=zh h.1;have Hl':=zh h'.1;have Hs:=zh hs.2;have Hs':=zh hs'.2;clear h h' hs hs';generalize decide (fs=gs)=R at *;have HB0:Hid (Below w.heap.size w ((w.alloc (.cells #[.slice A n c] 26)).alloc (.cells #[.slice A' n' c'] 26))):=(Below.new _ _).later (Below.new _ _);have HX0:Hid (Blk ((w.alloc (.cells #[.slice A n c] 26)).alloc (.cells #[.slice A' n' c'] 26)) w.heap.size 26 #[.slice A n c]):=uD _ _ _;have HY0:Hid (Blk ((w.alloc (.cells #[.slice A n c] 26)).alloc (.cells #[.slice A' n' c'] 26)) (w.heap.size+1) 26 #[.slice A' n' c']):=xD _ _ _;by_cases hne:n=n'
 · subst hne;have hbn:((n:Int) != (n:Int))=false:=by simp
   go_enter Tryz.func24,Tryz.ntmps24;go_wp2_with fail;generalize ((w.alloc (.cells #[.slice A n c] 26)).alloc (.cells #[.slice A' n c'] 26))=WB at *;go_loopw [5] (fun i wr=>∃k:Nat,k≤n∧i=.int .i64 k∧Hid (Below WB.heap.size WB wr)∧Hid (R=zCO (fs.drop k) (gs.drop k))) (fun i _=>n-(intOf i).toNat);case atStart=>exact⟨0,Nat.zero_le _,rfl,Below.refl _ _,by unfold Hid;rw[List.drop_zero,List.drop_zero];exact HR.out⟩
   case round =>
    obtain⟨k,hk,rfl,HBr,hS⟩:=hrel;have HB:=zh (HB0.out.later HBr.out);have x0:=(HX0.out.later HBr.out HX0.out.lt).cell 0;have y0:=(HY0.out.later HBr.out HY0.out.lt).cell 0;simp at x0 y0;by_cases hlt:k<n
    · obtain⟨b,o,rfl,hbB,hcell⟩:=(Hh.out.later HB.out).2 (by omega);obtain⟨b',o',rfl,hbB',hcell'⟩:=(Hh'.out.later HB.out).2 (by omega);obtain⟨c0,c1,c2,k0,k1,k2,hr⟩:=hcell k hlt;obtain⟨d0,d1,d2,j0,j1,j2,hr'⟩:=hcell' k hlt;clear hcell hcell';have hl:k<fs.length:=by rw[Hl.out];exact hlt
      have hl':k<gs.length:=by rw[Hl'.out];exact hlt
      have HS:=zh (zEK fs gs k hl hl');have HK:=zh (fun W (hW:Below wr.heap.size wr W)=>zCN c0 c1 c2 d0 d1 d2 (fs.getD k default) (gs.getD k default) W (hr.later hW) (hr'.later hW) (Hs.out _ (uC fs k hl)).2.1.1 (Hs'.out _ (uC gs k hl')).2.1.1);clear hl hl';generalize fs.getD k default=s at *;generalize gs.getD k default=t at *;generalize hx:uN s t=x at *;have HX:=zh hx;clear hx;obtain⟨rfl,⟨S,m,q,rfl,_,_⟩,rfl⟩:=hr;obtain⟨rfl,⟨S',m',q',rfl,_,_⟩,rfl⟩:=hr';have HSS:Hid (∀W,Below wr.heap.size wr W→(W.cell? ⟨w.heap.size,0,none⟩=some (.slice (some ⟨b,o,none⟩) n c)∧W.cell? ⟨w.heap.size+1,0,none⟩=some (.slice (some ⟨b',o',none⟩) n c')∧W.cell? ⟨b,o+k*3,none⟩=some (.string s.name)∧W.cell? ⟨b,o+k*3+1,none⟩=some (.slice S m q)∧W.cell? ⟨b,o+k*3+2,none⟩=some (.string s.val)∧W.cell? ⟨b',o'+k*3,none⟩=some (.string t.name)∧W.cell? ⟨b',o'+k*3+1,none⟩=some (.slice S' m' q')∧W.cell? ⟨b',o'+k*3+2,none⟩=some (.string t.val))):=fun W hW=>⟨cell_later hW x0,cell_later hW y0,cell_later hW k0,cell_later hW k1,cell_later hW k2,cell_later hW j0,cell_later hW j1,cell_later hW j2⟩;go_wp2_with fail
      go_region_held3 (fun W=>W.cell? ⟨w.heap.size,0,none⟩=some (.slice (some ⟨b,o,none⟩) n c)∧W.cell? ⟨w.heap.size+1,0,none⟩=some (.slice (some ⟨b',o',none⟩) n c')∧W.cell? ⟨b,o+k*3,none⟩=some (.string s.name)∧W.cell? ⟨b,o+k*3+1,none⟩=some (.slice S m q)∧W.cell? ⟨b,o+k*3+2,none⟩=some (.string s.val)∧W.cell? ⟨b',o'+k*3,none⟩=some (.string t.name)∧W.cell? ⟨b',o'+k*3+1,none⟩=some (.slice S' m' q')∧W.cell? ⟨b',o'+k*3+2,none⟩=some (.string t.val))
       (first | exact HSS.out _ (Below.refl _ _).drew | exact HSS.out _ HB2.out | go_keep)
       ((go_at_call 80
         refine(HK.out _ (by exact(Below.refl _ _).drew)).mono ?_;rintro e w2 ⟨rfl,hb2'⟩;have HB2:=zh (zD0 hb2')
         clear hb2'))
      have HB3:=zh (HBr.out.later HB2.out);clear x0 y0 k0 k1 k2 j0 j1 j2;cases x
      · go_wp2_with fail;go_ret;exact⟨zA0 (by rw[hS.out,HS.out];rfl),HB0.out.later HB3.out⟩
      · go_wp2_with fail;go_roundw;case rel=>exact⟨k+1,by omega,by go_num,HB3.out,by unfold Hid;rw[hS.out,HS.out,Bool.true_and]⟩
        case measure=>simp[intOf];omega
    · have HE:Hid (R=true):=by unfold Hid;rw[hS.out,List.drop_of_length_le (by rw[Hl.out];omega),List.drop_of_length_le (by rw[Hl'.out];omega)];rfl
      go_wp2_with fail;go_ret;exact⟨zA0 HE.out.symm,HB.out⟩
 · have HE:Hid (R=false):=by unfold Hid;rw[HR.out,zAD];exact decide_eq_false (fun e=>hne (by rw[←Hl.out,←Hl'.out,e]))
   have hbn:((n:Int) != (n':Int))=true:=by simp;omega
   have hbn2:((n:Int)==(n':Int))=false:=by simp;omega
   go_enter Tryz.func24,Tryz.ntmps24;go_wp2_with fail;go_ret;exact⟨zA0 HE.out.symm,HB0.out⟩
end Go.Proofs.YtgmaamnofhmecaaGreatDoor
