import Derived.Test.YtgmaamnofhmecaaGreatDoorY23
import Derived.Test.YtgmaamnofhmecaaGreatDoorY37
set_option linter.unusedSimpArgs false
open Go.Lib renaming hid → zh
namespace Go.Proofs.YtgmaamnofhmecaaGreatDoor
open Go.RowKit
set_option linter.unusedVariables false
noncomputable def tafB (fs:List NodeD) (l:List BatD):Int × Nat × List NodeD:=if (xA fs&&batsB l)=true then vM fs l 0 else (1,0,[])
noncomputable def replB (fs:List NodeD) (l:List EvD):Int × Nat × List NodeD:=if (xA fs&&notesB l)=true then yI fs l 0 else (1,0,[])
theorem zKe (fs:List NodeD) (l:List BatD) (gs:List NodeD):(decide ((tafB fs l).1=0)&&(xA gs&&decide ((tafB fs l).2.2=gs)))=serB fs l gs:=by
 unfold tafB serB;cases h1:xA fs <;> cases h2:batsB l <;> simp;cases h3:xA gs <;> simp
theorem zHP {fs:List NodeD} {e:EvD} {N:Int} (hk:e.kind=4) (h:(yD fs e).1=0) (hN:N≠e.n):(yD fs { e with n:=N }).1≠0:=by
 have ht:uB e=false:=by unfold uB;rw[hk];rfl
 have ht2:uB { e with n:=N }=false:=by unfold uB;dsimp only;rw[hk];rfl
 unfold yD at h ⊢;rw[if_neg (by rw[ht];decide)]at h;rw[if_neg (by rw[ht2];decide)];split at h
 · next hs =>
   have h2:=sameE_iff.1 hs;have h3:zF0 e.name e.subs fs=e.n:=by have:=congrArg EvD.n h2;unfold zB0 at this;rw[if_neg (by omega),if_pos hk]at this;exact this
   rw[if_neg]
   · exact(by decide:(5:Int)≠0)
   · intro hs2;have h4:=congrArg EvD.n (sameE_iff.1 hs2);unfold zB0 at h4;dsimp only at h4;rw[if_neg (by omega),if_pos hk]at h4;exact hN (by rw[←h4];exact h3)
 · cases h
theorem zFT:∀(l:List EvD) (fs:List NodeD) (j i:Nat) (N:Int),(yI fs l j).1=0→i<l.length→(l.getD i default).kind=4→N≠(l.getD i default).n→(yI fs (l.set i { l.getD i default with n:=N }) j).1≠0
 | [],_,_,_,_,_,h,_,_=>absurd h (by simp)
 | e::r,fs,j,0,N,h,_,hk,hN=>by
   unfold yI at h;split at h
   · next ha=>have:=zHP hk ha hN;rw[List.getD_cons_zero]at this hk hN ⊢;rw[List.set_cons_zero];unfold yI;rw[if_neg this];exact this
   · next ha=>exact absurd h ha
 | e::r,fs,j,i+1,N,h,hi,hk,hN=>by
   unfold yI at h;split at h
   · next ha=>rw[List.getD_cons_succ]at hk hN ⊢;rw[List.set_cons_succ];unfold yI;rw[if_pos ha];exact zFT r _ _ i N h (by simpa using hi) hk hN
   · next ha=>exact absurd h ha
theorem zGO:∀(l:List BatD) (fs:List NodeD) (j k i:Nat) (N:Int),(vM fs l j).1=0→k<l.length→i<(l.getD k default).evs.length→((l.getD k default).evs.getD i default).kind=4→N≠((l.getD k default).evs.getD i default).n →
 (vM fs (l.set k ⟨(l.getD k default).job,(l.getD k default).evs.set i { (l.getD k default).evs.getD i default with n:=N }⟩) j).1≠0
 | [],_,_,_,_,_,_,h,_,_,_=>absurd h (by simp)
 | b::r,fs,j,0,i,N,h,_,hi,hk,hN=>by
   unfold vM at h;split at h
   · next ha=>rw[List.getD_cons_zero]at hk hN hi ⊢;have:=zFT b.evs fs 0 i N ha hi hk hN;rw[List.set_cons_zero];unfold vM;dsimp only;rw[if_neg this];exact this
   · next ha=>exact absurd h ha
 | b::r,fs,j,k+1,i,N,h,hkl,hi,hk,hN=>by
   unfold vM at h;split at h
   · next ha=>rw[List.getD_cons_succ]at hk hN hi ⊢;rw[List.set_cons_succ];unfold vM;rw[if_pos ha];exact zGO r _ _ k i N h (by simpa using hkl) hi hk hN
   · next ha=>exact absurd h ha
theorem zJr {fs:List NodeD} {l:List BatD} {gs:List NodeD} {k i:Nat} {N:Int} (h:serB fs l gs=true) (hkl:k<l.length) (hi:i<(l.getD k default).evs.length) (hk:((l.getD k default).evs.getD i default).kind=4) (hN:N≠((l.getD k default).evs.getD i default).n) :
 serB fs (l.set k ⟨(l.getD k default).job,(l.getD k default).evs.set i { (l.getD k default).evs.getD i default with n:=N }⟩) gs=false:=by
 unfold serB at h;simp only[Bool.and_eq_true,decide_eq_true_eq]at h;have:=zGO l fs 0 k i N h.2.2.2.1 hkl hi hk hN;unfold serB;rw[decide_eq_false this];simp
end Go.Proofs.YtgmaamnofhmecaaGreatDoor
namespace Go.Proofs.YtgmaamnofhmecaaGreatDoor
open Go.RowKit
set_option linter.unusedVariables false
theorem zCo {e:EvD} (h:noteB e=true):uB e=!xI e:=by
 have h2:=(wZ h).2
 have hk:e.kind=1∨e.kind=4∨e.kind=5∨e.kind=6∨e.kind=2∨e.kind=3:=by
  unfold resB at h2;split at h2
  · next h=>exact .inl h
  split at h2
  · next h=>exact .inr (.inl h)
  split at h2
  · next h=>exact .inr (.inr (.inl h))
  split at h2
  · next h=>exact .inr (.inr (.inr (.inl h)))
  split at h2
  · next h=>exact .inr (.inr (.inr (.inr (.inl h))))
  · simp only[Bool.and_eq_true,decide_eq_true_eq]at h2;exact .inr (.inr (.inr (.inr (.inr h2.1))))
 unfold xI uB;rcases hk with h | h | h | h | h | h <;> rw[h] <;> rfl
def TreeW (v0:Value) (fs0:List NodeD) (base:Nat) (wr:World) (v:Value) (gs:List NodeD):Prop:=(v=v0∧gs=fs0)∨NodesO wr base v gs
theorem TreeW.later {v0:Value} {fs0:List NodeD} {base:Nat} {w w':World} {v:Value} {gs:List NodeD} (h:TreeW v0 fs0 base w v gs) (hb:Below w.heap.size w w'):TreeW v0 fs0 base w' v gs :=
 h.imp id (fun h=>h.later hb)
theorem TreeW.setBlk {v0:Value} {fs0:List NodeD} {base:Nat} {w:World} {v:Value} {gs:List NodeD} {g i:Nat} {t:TypeId} {u:Value} {cs:Array Value} (h:TreeW v0 fs0 base w v gs) (hB:Blk w g t cs) (h1:102≠t) (h2:9≠t):TreeW v0 fs0 base (w.setCell ⟨g,i,none⟩ u) v gs :=
 h.imp id (fun h=>h.setBlk hB h1 h2)
theorem TreeW.reads {base:Nat} {w0 w:World} {A:Option Addr} {n c:Nat} {fs0:List NodeD} {v:Value} {gs:List NodeD} (h:TreeW (.slice A n c) fs0 base w v gs) (h0:Nodes w0 w0.heap.size A n fs0) (hnc:n≤c) (hb:Below w0.heap.size w0 w):∃A' cap,v=.slice A' gs.length cap∧gs.length≤cap∧Nodes w w.heap.size A' gs.length gs:=by
 rcases h with ⟨rfl,rfl⟩ | h
 · refine⟨A,c,by rw[h0.1],by rw[h0.1];exact hnc,by rw[h0.1];exact h0.later hb⟩
 · exact h.reads
def zJW (v0:Value) (fs0:List NodeD) (r:Int × Nat × List NodeD) (w:World) (e:Ending) (w':World):Prop:=∃v,e=.returned (.tuple #[.agg #[v],.int .i64 r.2.1,.int .i64 r.1])∧TreeW v0 fs0 w.heap.size w' v r.2.2∧Below w.heap.size w w'
theorem TreeW.nil (v0:Value) (fs0:List NodeD) (base:Nat) (w:World):TreeW v0 fs0 base w (.slice none 0 0) []:=.inr (wI _ _)
theorem zJK {w:World} {B:Nat} {A:Option Addr} {m c:Nat} {d:EvD} (h:Own.SubO w B (.slice A m c) d.subs):EvR w w.heap.size (.int .i64 d.kind) (.string d.name) (.slice A m c) (.string d.val) (.int .i64 d.n) d:=by
 obtain⟨A1,cap1,e1,hc1,hs1⟩:=h.strs;cases e1;exact⟨rfl,rfl,⟨A,_,c,rfl,hs1,hc1⟩,rfl,rfl⟩
theorem zDS (fs:List NodeD) (d:EvD):(zB0 fs d).subs=d.subs:=by
 unfold zB0
 repeat' split
 all_goals rfl
theorem uO {α:Type} [Inhabited α] (cs:List α) (k:Nat) (h:k<cs.length):cs.drop k=cs.getD k default::cs.drop (k+1):=by
 rw[List.drop_eq_getElem_cons h,List.getD_eq_getElem?_getD,List.getElem?_eq_getElem h];rfl
set_option maxRecDepth 100000 in
set_option maxHeartbeats 8000000 in
theorem zEe (A:Option Addr) (n c:Nat) (L:Option Addr) (m q:Nat) (fs:List NodeD) (l:List EvD) (w:World) (hN:Nodes w w.heap.size A n fs) (hnc:n≤c) (ht:xA fs=true) (hcl:uE fs) (hL:Evs w w.heap.size L m l) (hm:m≤60) (hall:∀e∈l,noteB e=true∧e.small∧zCh e) :
 Calls Tryz.prog 89 #[.agg #[.slice A n c],.slice L m q] w (zJW (.slice A n c) fs (yI fs l 0) w):=by
 have HN:=zh hN;have HLC:=zh hL;have HLL:=zh hL.1;have HAL:=zh hall;have HT0:=zh ht;have HC0:=zh hcl;have HNC:=zh hnc;have HPB0:Hid (yI fs l 0=yI fs l 0):=rfl;clear hN hnc ht hcl hL hall;generalize hPB:yI fs l 0=PB at *;clear HPB0;obtain⟨WB,hWB⟩:∃WB,WB=(w.alloc (.cells #[.slice A n c] 26)).alloc (.cells #[.slice none 0 0] 26):=⟨_,rfl⟩;have HB0:Hid (Below w.heap.size w WB):=by subst hWB;exact(Below.new _ _).later (Below.new _ _)
 have HX0:Hid (Blk WB w.heap.size 26 #[.slice A n c]):=by subst hWB;exact uD _ _ _
 have HY0:Hid (Blk WB (w.heap.size+1) 26 #[.slice none 0 0]):=by subst hWB;exact xD _ _ _
 have HPB:=zh hPB;clear hPB;go_enter Tryz.func89,Tryz.ntmps89;go_wp2_with fail;rw[←hWB];clear hWB;go_loopw [7] (fun i wr=>∃(k:Nat) (v:Value) (gs:List NodeD),k≤m∧i=.int .i64 k∧Hid (Blk wr w.heap.size 26 #[v])∧Hid (Blk wr (w.heap.size+1) 26 #[.slice none 0 0])∧Hid (TreeW (.slice A n c) fs w.heap.size wr v gs)∧Hid (xA gs=true)∧Hid (uE gs)∧Hid (Below w.heap.size w wr)∧Hid (PB=yI gs (l.drop k) k)) (fun i _=>m-(intOf i).toNat);case atStart=>exact⟨0,_,fs,Nat.zero_le _,rfl,HX0.out,HY0.out,.inl ⟨rfl,rfl⟩,HT0.out,HC0.out,HB0.out,by unfold Hid;rw[List.drop_zero];exact HPB.out.symm⟩
 case round =>
  obtain⟨k,v,gs,hk,rfl,HV,HYR,HTW,HTG,HCG,HBW,HPK⟩:=hrel;obtain⟨A3,cap3,rfl,hc3,hN3⟩:=HTW.out.reads HN.out HNC.out HBW.out;have pv:=HV.out.cell 0;have zv:=HV.out.lt;have fv:=HV.out.frozen 0;have py:=HYR.out.cell 0;have zy:=HYR.out.lt;have fy:=HYR.out.frozen 0;simp at pv py;clear HX0 HY0 HB0;by_cases hlt:k<m
  · obtain⟨bb,o,rfl,hbB,hc⟩:=(HLC.out.later HBW.out).2 (by omega);obtain⟨c0,c1,c2,c3,c4,k0,k1,k2,k3,k4,hr⟩:=hc k hlt;clear hc;have hl:k<l.length:=by rw[HLL.out];exact hlt
    obtain⟨hnote,hsd,hce⟩:=HAL.out _ (uC l k hl);have hda:=uO l k hl;have hwh:=(wZ hnote).1;have hrt:=zCo hnote;generalize l.getD k default=d at *;have HDA:Hid (PB=if (yD gs d).1=0 then yI (yD gs d).2 (l.drop (k+1)) (k+1) else ((yD gs d).1,k,[])):=by unfold Hid;rw[HPK.out,hda];rfl
    have HDT:Hid ((yD gs d).1=0→xA (yD gs d).2=true):=zBp HTG.out hnote;have HDC:Hid (uE (yD gs d).2):=zAI HCG.out hce;have HKR:=zh (fun W (hW:Below wr.heap.size wr W)=>zAi c0 c1 c2 c3 c4 d W (hr.later hW));cases hrd:xI d
    · rw[hrd]at hrt;have HKT:=zh (fun W (hW:Below wr.heap.size wr W)=>zCu A3 gs.length cap3 gs c0 c1 c2 c3 c4 d W (hN3.later hW) hc3 (zC0 HTG.out) (hr.later hW) hsd);rw[zHD HTG.out hnote hrt]at HKT;rw[hrd]at HKR;clear hda hsd hnote hce hwh hrt hrd;generalize yD gs d=R at *;obtain⟨r1,r2⟩:=R;have HR:=zh hr;obtain⟨rfl,rfl,⟨S,m1,q1,rfl,_,_⟩,rfl,rfl⟩:=hr;have hxx:w.heap.size≠w.heap.size+1:=by omega
      go_wp2_with fail;refine(HKR.out _ (Below.refl _ _)).mono ?_;rintro e w1 ⟨rfl,hb1⟩;have HB1:=zh hb1;have HV1:=zh (HV.out.later hb1 HV.out.lt);have HYR1:=zh (HYR.out.later hb1 HYR.out.lt);have HR1:=zh (HR.out.later hb1);have HTW1:=zh (HTW.out.later hb1);have HBW1:=zh (HBW.out.later hb1);have hbB1:bb<w1.heap.size:=Nat.lt_of_lt_of_le hbB hb1.size;have j0:=cell_later hb1 k0;have j1:=cell_later hb1 k1;have j2:=cell_later hb1 k2;have j3:=cell_later hb1 k3;have j4:=cell_later hb1 k4;clear hb1 k0 k1 k2 k3 k4 pv zv fv py zy fy HV HYR HR HTW HBW hN3;have pv:=HV1.out.cell 0;have zv:=HV1.out.lt;have fv:=HV1.out.frozen 0;have py:=HYR1.out.cell 0;have zy:=HYR1.out.lt;have fy:=HYR1.out.frozen 0;simp at pv py;go_wp2_with fail
      go_region_law (first
       | (go_simp
          go_at_call 82;refine(HKT.out _ (by exact HB1.out.drew)).mono ?_;rintro e w4 ⟨v4,rfl,hN4,hb4'⟩;have hb4:=zD0 hb4';obtain⟨A4,cap4,rfl,hcap4,_⟩:=hN4.reads;have HW:=zh (Below.new w4 (.cells #[.slice A4 r2.length cap4] 26));have H8X:Hid (Blk (w4.alloc (.cells #[.slice A4 r2.length cap4] 26)) w4.heap.size 26 #[.slice A4 r2.length cap4]):=heap_alloc_new _ _;have HVX:=zh ((HV1.out.later hb4 HV1.out.lt).alloc (.cells #[.slice A4 r2.length cap4] 26));have HYX:=zh ((HYR1.out.later hb4 HYR1.out.lt).alloc (.cells #[.slice A4 r2.length cap4] 26));have HNX:Hid (NodesO (w4.alloc (.cells #[.slice A4 r2.length cap4] 26)) w.heap.size (.slice A4 r2.length cap4) r2):=(hN4.base HBW1.out.size).later HW.out;have HBX:=zh ((HBW1.out.later hb4).later HW.out);have z8:=H8X.out.lt
          clear hb4 hb4' hN4)
       | (go_simp
          go_at_call 82;refine(HKT.out _ (by exact(HB1.out.later (Below.new _ _)).drew)).mono ?_;rintro e w4 ⟨v4,rfl,hN4,hb4'⟩;have hb4:=zD0 hb4';obtain⟨A4,cap4,rfl,hcap4,_⟩:=hN4.reads;have h8:Blk w4 w1.heap.size 26 #[.slice none 0 0]:=Blk.later (heap_alloc_new w1 _) hb4 (by simp);have p8:=h8.cell 0;have f8:=h8.frozen 0;have z8:=h8.lt;simp at p8;have hbW:=(Below.new w1 (.cells #[.slice none 0 0] 26)).later hb4;have H8X:Hid (Blk (w4.setCell ⟨w1.heap.size,0,none⟩ (.slice A4 r2.length cap4)) w1.heap.size 26 #[.slice A4 r2.length cap4]):=h8.set_ 0 _;have HVX:=zh ((HV1.out.later hbW HV1.out.lt).far (p:=⟨w1.heap.size,0,none⟩) (show w.heap.size≠w1.heap.size by omega) (.slice A4 r2.length cap4));have HYX:=zh ((HYR1.out.later hbW HYR1.out.lt).far (p:=⟨w1.heap.size,0,none⟩) (show w.heap.size+1≠w1.heap.size by omega) (.slice A4 r2.length cap4));have HNX:Hid (NodesO (w4.setCell ⟨w1.heap.size,0,none⟩ (.slice A4 r2.length cap4)) w.heap.size (.slice A4 r2.length cap4) r2):=(hN4.base (by have:=HBW1.out.size;simp;omega)).setBlk h8 (by decide) (by decide);have HBX:=zh ((HBW1.out.later hbW).setCell (p:=⟨w1.heap.size,0,none⟩) HBW1.out.size (.slice A4 r2.length cap4))
          clear hb4 hb4' hN4 h8 hbW))
      all_goals
       have p8:=H8X.out.cell 0;have z8:=H8X.out.lt;have pv:=HVX.out.cell 0;have fv:=HVX.out.frozen 0;have zv:=HVX.out.lt;have py:=HYX.out.cell 0;have fy:=HYX.out.frozen 0;have zy:=HYX.out.lt;simp at p8 pv py;by_cases hr0:r1=0
       · have HE2:Hid (PB=yI r2 (l.drop (k+1)) (k+1)):=by unfold Hid;rw[HDA.out,if_pos hr0]
         have HT2:=zh (HDT.out hr0);subst hr0;go_wp2_with fail;go_roundw;case rel=>exact⟨k+1,_,r2,by omega,by go_num,HVX.out.set_ 0 _,HYX.out.far (show w.heap.size+1≠w.heap.size by omega) _,.inr (HNX.out.setBlk HVX.out (by decide) (by decide)),HT2.out,HDC.out,HBX.out.setCell (show w.heap.size≤w.heap.size by omega) _,HE2.out⟩
         case measure=>simp[intOf];omega
       · have HE2:Hid (PB=(r1,k,[])):=by unfold Hid;rw[HDA.out,if_neg hr0]
         have hb0:(r1==(0:Int))=false:=by rw[beq_eq_false_iff_ne];exact hr0
         go_wp2_with fail;refine bodyPost_ret (v:=.tuple #[.agg #[.slice none 0 0],.int .i64 k,.int .i64 r1]) (by simp[results,Tryz.results89,go_sem,py]) rfl ?_;exact⟨_,by rw[HE2.out],by rw[HE2.out];exact TreeW.nil _ _ _ _,HBX.out.setCell (show w.heap.size≤w.heap.size+1 by omega) _⟩
    · have hto:yD gs d=if vX (zB0 gs d) d=true then (0,gs) else (5,gs):=by unfold yD;rw[hrt,hrd];rfl
      have HKG:=zh (fun W (hW:Below wr.heap.size wr W)=>zBB A3 gs.length cap3 gs c0 c1 c2 c3 c4 d W (hN3.later hW) HTG.out HCG.out (hr.later hW) hsd hwh hrd);have HKS:=zh (fun A1 m1 q1 W (hW:Below wr.heap.size wr W) (hS:Own.SubO W wr.heap.size (.slice A1 m1 q1) (zB0 gs d).subs)=>zCd _ _ _ _ _ c0 c1 c2 c3 c4 (zB0 gs d) d W (zJK hS) (hr.later hW) (by rw[zDS];exact hsd.2.1.1) hsd.2.1.1);rw[hrd]at HKR;rw[hto]at HDA HDT HDC;clear hda hsd hnote hce hwh hrt hrd hto;have HR:=zh hr;obtain⟨rfl,rfl,⟨S,m1,q1,rfl,_,_⟩,rfl,rfl⟩:=hr;have hxx:w.heap.size≠w.heap.size+1:=by omega
      unfold yM at HKG;generalize zB0 gs d=ag at *;generalize hsm:vX ag d=sb at *;clear hsm;go_wp2_with fail;refine(HKR.out _ (Below.refl _ _)).mono ?_;rintro e w1 ⟨rfl,hb1⟩;have HB1:=zh hb1;have j0:=cell_later hb1 k0;have j1:=cell_later hb1 k1;have j2:=cell_later hb1 k2;have j3:=cell_later hb1 k3;have j4:=cell_later hb1 k4;have j5:=cell_later hb1 pv;clear hb1 k0 k1 k2 k3 k4 pv zv fv py zy fy HR hN3;have HS:Hid (∀W,Below w1.heap.size w1 W→(W.cell? ⟨w.heap.size,0,none⟩=some (.slice A3 gs.length cap3)∧W.cell? ⟨bb,o+k*5,none⟩=some (.int .i64 d.kind)∧W.cell? ⟨bb,o+k*5+1,none⟩=some (.string d.name)∧W.cell? ⟨bb,o+k*5+2,none⟩=some (.slice S m1 q1)∧W.cell? ⟨bb,o+k*5+3,none⟩=some (.string d.val)∧W.cell? ⟨bb,o+k*5+4,none⟩=some (.int .i64 d.n))):=fun W hW=>⟨cell_later hW j5,cell_later hW j0,cell_later hW j1,cell_later hW j2,cell_later hW j3,cell_later hW j4⟩;go_wp2_with fail
      go_region_held3 (fun W=>W.cell? ⟨w.heap.size,0,none⟩=some (.slice A3 gs.length cap3)∧W.cell? ⟨bb,o+k*5,none⟩=some (.int .i64 d.kind)∧W.cell? ⟨bb,o+k*5+1,none⟩=some (.string d.name)∧W.cell? ⟨bb,o+k*5+2,none⟩=some (.slice S m1 q1)∧W.cell? ⟨bb,o+k*5+3,none⟩=some (.string d.val)∧W.cell? ⟨bb,o+k*5+4,none⟩=some (.int .i64 d.n))
       (first | exact HS.out _ (Below.refl _ _).drew | exact HS.out _ HB2.out | exact HS.out _ HB3.out | go_keep)
       (first
         | (go_at_call 106
            refine(HKG.out _ (by exact HB1.out.drew)).mono ?_;rintro e w2 ⟨v2,rfl,ho2,hb2'⟩;have HB2:=zh (zD0 hb2');obtain⟨A1,m2,q2,rfl⟩:∃A1 m2 q2,v2=.slice A1 m2 q2:=by obtain⟨A,cap,e,_⟩:=Own.own_slice ho2;exact⟨A,_,cap,e⟩
            have HSO:=zh (Own.own_base ho2 (by simpa using HB1.out.size))
            clear hb2' ho2)
         | (go_at_call 105
            refine(HKS.out _ _ _ _ (HB1.out.later HB2.out) HSO.out).mono ?_;rintro e w3 ⟨rfl,hb3⟩;have HB3:=zh (HB2.out.later hb3)
            clear hb3))
      have HB13:=zh (HB1.out.later HB3.out);have HV3:=zh (HV.out.later HB13.out HV.out.lt);have HYR3:=zh (HYR.out.later HB13.out HYR.out.lt);have HTW3:=zh (HTW.out.later HB13.out);have HBW3:=zh (HBW.out.later HB13.out);have py:=HYR3.out.cell 0;have zy:=HYR3.out.lt;have fy:=HYR3.out.frozen 0;simp at py;clear j0 j1 j2 j3 j4 j5;cases sb
      · have HE2:Hid (PB=(5,k,[])):=by unfold Hid;rw[HDA.out];rfl
        go_wp2_with fail;refine bodyPost_ret (v:=.tuple #[.agg #[.slice none 0 0],.int .i64 k,.int .i64 5]) (by simp[results,Tryz.results89,go_sem,py]) rfl ?_;exact⟨_,by rw[HE2.out],by rw[HE2.out];exact TreeW.nil _ _ _ _,HBW3.out.setCell (show w.heap.size≤w.heap.size+1 by omega) _⟩
      · have HE2:Hid (PB=yI gs (l.drop (k+1)) (k+1)):=by unfold Hid;rw[HDA.out];rfl
        go_wp2_with fail;go_roundw;case rel=>exact⟨k+1,_,gs,by omega,by go_num,HV3.out,HYR3.out,HTW3.out,HTG.out,HCG.out,HBW3.out,HE2.out⟩
        case measure=>simp[intOf];omega
  · obtain rfl:k=m:=by omega
    have HE2:Hid (PB=(0,0,gs)):=by unfold Hid;rw[HPK.out,List.drop_of_length_le (by rw[HLL.out];omega)];rfl
    have hxx:w.heap.size≠w.heap.size+1:=by omega
    go_wp2_with fail;refine bodyPost_ret (v:=.tuple #[.agg #[.slice A3 _ cap3],.int .i64 0,.int .i64 0]) (by simp[results,Tryz.results89,go_sem,py];try first | exact rfl | exact⟨rfl,rfl⟩) rfl ?_;exact⟨_,by rw[HE2.out];rfl,by rw[HE2.out];exact HTW.out.setBlk HYR.out (by decide) (by decide),HBW.out.setCell (show w.heap.size≤w.heap.size+1 by omega) _⟩
end Go.Proofs.YtgmaamnofhmecaaGreatDoor
