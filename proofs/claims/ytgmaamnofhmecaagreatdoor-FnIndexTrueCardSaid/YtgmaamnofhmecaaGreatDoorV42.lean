import Derived.Test.YtgmaamnofhmecaaGreatDoorV41
open Go.Lib renaming hid → zh
namespace Go.Proofs.YtgmaamnofhmecaaGreatDoor
open Go.RowKit
set_option linter.unusedVariables false
theorem zGi {α:Type} [Inhabited α] (p:α→Bool) (l:List α) (h:∀k,k<l.length→p (l.getD k default)=true):l.all p=true:=by
 rw[List.all_eq_true];intro x hx;obtain⟨i,hi,rfl⟩:=List.getElem_of_mem hx;have:=h i hi
 rwa [List.getD_eq_getElem?_getD,List.getElem?_eq_getElem hi]at this
theorem zDS {α:Type} [Inhabited α] (p:α→Bool) (l:List α) (k:Nat) (hk:k<l.length) (h:p (l.getD k default)=false):l.all p=false:=by
 rw[List.all_eq_false];exact⟨_,zAe l k hk,by rw[h];decide⟩
theorem zIm {kind:Int} {g:ByteArray} {cols r:List ByteArray} {c:ByteArray} (hg:g.size≤1048576) (hr:wL r) (hc:c.size≤1048576):∀d∈zI0 kind g cols r c,d.name.size≤1048576∧d.subs.length≤1048576∧∀s∈d.subs,s.size≤1048576:=by
 have hget:∀j,(r.getD j ByteArray.empty).size≤1048576:=fun j=>by
  rcases Nat.lt_or_ge j r.length with h | h
  · exact hr.2 _ (zAe r j h)
  · rw[List.getD_eq_getElem?_getD,List.getElem?_eq_none h];decide
 intro d hd;unfold zI0 at hd;split at hd
 · simp at hd
 · rw[List.mem_singleton]at hd;subst hd;refine⟨hg,by simp,fun s hs=>?_⟩;simp only[List.mem_cons,List.not_mem_nil,or_false]at hs;rcases hs with h | h | h | h
   · rw[h];decide
   · rw[h];exact hc
   · rw[h];exact hget _
   · rw[h];exact hget _
theorem zLm (fs:List NodeD) (nm:ByteArray) (ss:List ByteArray):0≤zBw fs nm ss:=by
 unfold zBw;split
 · exact(zJj nm ss fs 0 0 (by omega) (by omega)).1
 · omega
theorem zLJ {b:TableD} (hf:∀c∈b.idx,0<wA b.cols c):∀x,0≤wA b.idx x→0≤wA b.cols x:=fun x hx=>by
 obtain⟨j,hj,_,e⟩:=zCY hx;have h1:=hf (b.idx.getD j ByteArray.empty) (zAe b.idx j hj);rw[e]at h1;omega
def okN (b:TableD) (rs:List (List ByteArray)) (d:NodeD):Bool:=!xE b.glob d||vR b rs d
set_option maxRecDepth 100000 in
set_option maxHeartbeats 40000000 in
theorem wI (A:Option Addr) (n c:Nat) (b0 b1 b2 b3:Value) (fs:List NodeD) (b:TableD) (w:World) (h:Nodes w w.heap.size A n fs) (hb:TableR w w.heap.size b0 b1 b2 b3 b) (hts:wB fs) (hbs:b.small) :
 Calls Tryz.prog 15 #[.agg #[.slice A n c],.agg #[b0,b1,b2,b3]] w fun e w'=>e=.returned (.bool (xH fs b))∧Below w.heap.size w w':=by
 have HNX:=zh (fun W (hW:Below w.heap.size w W)=>h.later hW);have HTX:=zh (fun W (hW:Below w.heap.size w W)=>hb.later hW);have HK1:=zh (fun W (hW:Below w.heap.size w W)=>uG A n c fs W (h.later hW) hts);have HK2:=zh (fun W (hW:Below w.heap.size w W)=>zAu b0 b1 b2 b3 b W (hb.later hW) hbs);have HK3:Hid (xA fs=true→zF0 b=true→∀W (hW:Below w.heap.size w W),Calls Tryz.prog 63 #[.agg #[.slice A n c],.agg #[b0,b1,b2,b3]] W (zAF (uB b.cols (yA b.glob fs)) W)):=fun h1 h2 W hW=>zDy A n c b0 b1 b2 b3 fs b W (h.later hW) (hb.later hW) hts h1 (by have:=(vA h2).2.1;omega) (vA h2).2.2.1;have HKD:=zh (fun W (hW:Below w.heap.size w W) (S:Option Addr) (m q:Nat) (nm:ByteArray) (ss:List ByteArray) (h':Strs W W.heap.size S m ss) (hm:m≤1048576) (hn:nm.size≤1048576) (hz:∀s∈ss,s.size≤1048576)=>zIH A n c fs nm S m q ss W (h.later hW) hts h' hm hn hz);have HTF:Hid (zF0 b=true→1≤b.cols.length∧b.cols.length≤5∧∀c∈b.idx,0<wA b.cols c):=fun h2=>⟨(vA h2).2.1,(vA h2).2.2.1,(vA h2).2.2.2.2⟩;have HTZ:Hid (zF0 b=true→(uB b.cols (yA b.glob fs)).1=0→(uB b.cols (yA b.glob fs)).2.length≤24∧∀r∈(uB b.cols (yA b.glob fs)).2,wL r∧r.length=b.cols.length):=fun h2 h0=>zHP (vA h2).2.2.1 h0;have HR:Hid (xH fs b=((xA fs&&zF0 b)&&(decide ((uB b.cols (yA b.glob fs)).1=0)&&(fs.all (okN b (uB b.cols (yA b.glob fs)).2)&&(uB b.cols (yA b.glob fs)).2.all (zS0 fs b))))):=rfl;have hn:n≤1048576:=by rw[←h.1];exact hts.1
 have HFN:Hid (fs.length=n):=h.1;have HFS:Hid (wB fs):=hts;have HBS:=zh hbs;obtain⟨rfl,rfl,⟨A2,n2,p2,rfl,s2,k2⟩,⟨A3,n3,p3,rfl,s3,k3⟩⟩:=hb;have HL2:Hid (b.cols.length=n2):=s2.1;have HL3:Hid (b.idx.length=n3):=s3.1;have HC3:=zh (fun W (hW:Below w.heap.size w W)=>s3.later hW);have hn2:n2≤1048576:=by rw[←s2.1];exact hbs.2.2.1.1
 have hn3:n3≤1048576:=by rw[←s3.1];exact hbs.2.2.2.1
 clear h hts hbs s2 s3;generalize hIT:xH fs b=RES at *;clear hIT;generalize hrt:uB b.cols (yA b.glob fs)=RT at *;clear hrt;obtain⟨code,L⟩:=RT;dsimp only at HR HTZ;generalize hgl:b.glob=gl at *;have HGL:=zh hgl;clear hgl;generalize b.name=nm at *;obtain⟨WB,hWB⟩:∃WB,WB=(w.alloc (.cells #[.slice A n c] 26)).alloc (.cells #[.string nm,.string gl,.slice A2 n2 p2,.slice A3 n3 p3] 29):=⟨_,rfl⟩;have HBB:Hid (Below w.heap.size w WB):=by subst hWB;exact(Below.new _ _).later (Below.new _ _)
 have HD0:Hid (Blk WB w.heap.size 26 #[.slice A n c]):=by subst hWB;exact uC _ _ _
 have HT0:Hid (Blk WB (w.heap.size+1) 29 #[.string nm,.string gl,.slice A2 n2 p2,.slice A3 n3 p3]):=by subst hWB;exact xB _ _ _
 have HSA:Hid (∀W,Below WB.heap.size WB W→(W.cell? ⟨w.heap.size,0,none⟩=some (.slice A n c)∧W.cell? ⟨w.heap.size+1,0,none⟩=some (.string nm)∧W.cell? ⟨w.heap.size+1,1,none⟩=some (.string gl)∧W.cell? ⟨w.heap.size+1,2,none⟩=some (.slice A2 n2 p2)∧W.cell? ⟨w.heap.size+1,3,none⟩=some (.slice A3 n3 p3))):=fun W hW=>⟨(HD0.out.later hW HD0.out.lt).at 0 rfl,(HT0.out.later hW HT0.out.lt).at 0 rfl,(HT0.out.later hW HT0.out.lt).at 1 rfl,(HT0.out.later hW HT0.out.lt).at 2 rfl,(HT0.out.later hW HT0.out.lt).at 3 rfl⟩;have hwb:w.heap.size+1<WB.heap.size:=HT0.out.lt;clear HD0 HT0;obtain⟨x0,x1,x2,x3,x4⟩:=HSA.out _ (Below.refl _ _);go_enter Tryz.func15,Tryz.ntmps15;go_wp2_with fail;(try rw[←hWB]);clear hWB;(try go_wp2_with fail);refine(HK1.out _ (by exact HBB.out)).mono ?_;rintro e w1 ⟨rfl,hb1⟩;have HB1:=zh hb1;clear hb1 x0 x1 x2 x3 x4 HK1;obtain⟨x0,x1,x2,x3,x4⟩:=HSA.out _ HB1.out;generalize htr:xA fs=tr at *;cases tr;case false=>go_wp2_with fail;go_ret;exact⟨by rw[HR.out];rfl,HBB.out.later HB1.out⟩
 have HTR:=zh htr;clear htr;go_wp2_with fail;refine(HK2.out _ (HBB.out.later HB1.out)).mono ?_;rintro e w2 ⟨rfl,hb2⟩;have HB2:=zh (HB1.out.later hb2);clear hb2 x0 x1 x2 x3 x4 HK2;obtain⟨x0,x1,x2,x3,x4⟩:=HSA.out _ HB2.out;generalize htb:zF0 b=tb at *;cases tb;case false=>go_wp2_with fail;go_ret;exact⟨by rw[HR.out];rfl,HBB.out.later HB2.out⟩
 clear htb;obtain⟨hp1,hp5,hix⟩:=HTF.out (by first | rfl | trivial);have HIX:=zh hix;have HIN:=zh (zLJ hix);have hpos:0<n2:=by have:=HL2.out;omega
 clear hix hp1 hp5;go_wp2_with fail;refine(HK3.out (by first | rfl | trivial) (by first | rfl | trivial) _ (HBB.out.later HB2.out)).mono ?_;rintro e w3 ⟨lv,rfl,hl3,hb3⟩;obtain⟨A6,cap6,rfl,hc6,hR3⟩:=zBl hl3;have HB3:=zh (HB2.out.later hb3);have HRD:Hid (∀W,Below w3.heap.size w3 W→RowsRd W W.heap.size A6 L.length L):=fun W hW=>hR3.later hW;clear hb3 hl3 hR3 hc6 x0 x1 x2 x3 x4 HK3;obtain⟨x0,x1,x2,x3,x4⟩:=HSA.out _ HB3.out;by_cases h0:code=0
 case neg =>
  have hb0:(code==(0:Int))=false:=beq_eq_false_iff_ne.2 h0;have hn0:(code != (0:Int))=true:=by simp[bne,hb0]
  go_wp2_with fail;go_ret;exact⟨by rw[HR.out,decide_eq_false h0];rfl,HBB.out.later HB3.out⟩
 subst h0;obtain⟨hfew,hrows⟩:=HTZ.out (by first | rfl | trivial) (by first | rfl | trivial);have HRW:Hid (∀k,k<L.length→wL (L.getD k default)∧(L.getD k default).length=n2):=fun k hk=>by have:=hrows _ (zAe L k hk);exact⟨this.1,this.2.trans HL2.out⟩
 have HR2:Hid (RES=(fs.all (okN b L)&&L.all (zS0 fs b))):=by unfold Hid;rw[HR.out];rfl
 clear hrows HTZ HR;go_wp2_with fail;go_loopw [7] (fun i wr=>∃k:Nat,k≤n∧i=.int .i64 k∧Below w3.heap.size w3 wr∧Hid (∀j,j<k→okN b L (fs.getD j default)=true)) (fun i _=>n-(intOf i).toNat);case atStart=>exact⟨0,Nat.zero_le _,rfl,Below.refl _ _,fun j hj=>absurd hj (by omega)⟩
 case round =>
  obtain⟨k,hk,rfl,hbw,HNO⟩:=hrel;obtain⟨W4,rfl⟩:∃W4,W4=wr:=⟨wr,rfl⟩;have HB4:=zh hbw;have HX4:=zh (HB3.out.later hbw);clear hbw x0 x1 x2 x3 x4;obtain⟨x0,x1,x2,x3,x4⟩:=HSA.out _ HX4.out;have hw4:=HX4.out.size;by_cases hlt:k<n
  · have hki:(k:Int)<(n:Int):=by omega
    obtain⟨bb,o,rfl,hbB,hc⟩:=(HNX.out _ (HBB.out.later HX4.out)).2 (by omega);obtain⟨c0,c1,c2,k0,k1,k2,hr⟩:=hc k hlt;have HBAD:Hid (okN b L (fs.getD k default)=false→RES=false):=fun h=>by rw[HR2.out,zDS _ _ k (by rw[HFN.out];exact hlt) h];rfl
    have HOK:Hid (okN b L (fs.getD k default)=(!(decide ((fs.getD k default).name=gl)&&(decide (0<(fs.getD k default).subs.length)&&decide ((fs.getD k default).subs.getD 0 ByteArray.empty=iS)))||vR b L (fs.getD k default))):=by unfold Hid okN xE;rw[HGL.out]
    have HNX2:Hid (okN b L (fs.getD k default)=true→∀j,j<k+1→okN b L (fs.getD j default)=true):=fun h j hj=>by
     rcases Nat.lt_or_ge j k with h1 | h1
     · exact HNO.out j h1
     · obtain rfl:j=k:=by omega
       exact h
    clear hc;generalize fs.getD k default=d at *;obtain⟨rfl,⟨A1,n1,cap1,rfl,hs1,hcap1⟩,rfl⟩:=hr;obtain⟨W5,hW5⟩:∃W5,W5=W4.alloc (.cells #[.string d.name,.slice A1 n1 cap1,.string d.val] 102):=⟨_,rfl⟩;have HB5:Hid (Below W4.heap.size W4 W5):=by subst hW5;exact Below.new _ _
    have HN5:Hid (Blk W5 W4.heap.size 102 #[.string d.name,.slice A1 n1 cap1,.string d.val]):=by subst hW5;exact heap_alloc_new _ _
    have HX5:=zh (HX4.out.later HB5.out);have HKX:=zh (zEq (.string nm) (.string gl) (.slice A2 n2 p2) (.slice A3 n3 p3) A6 L.length cap6 (.string d.name) (.slice A1 n1 cap1) (.string d.val) b L d W5 (HTX.out _ (HBB.out.later HX5.out)) (HRD.out _ (HB4.out.later HB5.out)) ⟨rfl,⟨A1,n1,cap1,rfl,hs1.later HB5.out,hcap1⟩,rfl⟩ (by omega) HBS.out (by rw[HL2.out];exact hpos) HIN.out (fun j hj=>((HRW.out j hj).2).trans HL2.out.symm));have HS1:Hid (Strs W5 W5.heap.size A1 n1 d.subs):=hs1.later HB5.out;generalize vR b L d=ix at *;generalize okN b L d=ok at *;have hsl:d.subs.length=n1:=HS1.out.1;rw[hsl]at HOK;clear hsl;generalize d.name=dn at *;generalize d.val=dv at *;have hwz0:w.heap.size<W4.heap.size:=by omega
    have hwz1:w.heap.size+1<W4.heap.size:=by omega
    by_cases hnm:dn=gl
    case neg =>
     have HE:Hid (ok=true):=by unfold Hid;rw[HOK.out,decide_eq_false hnm];rfl
     have hb1:=vE hnm;go_wp2_with fail;go_roundw;case rel=>exact⟨k+1,by omega,by go_num,HB4.out.later (Below.new _ _),HNX2.out HE.out⟩
     case measure=>simp[intOf];omega
    subst hnm;by_cases hl0:0<n1
    case neg =>
     have HE:Hid (ok=true):=by unfold Hid;rw[HOK.out,decide_eq_false hl0];simp
     have hl1:¬((0:Int)<(n1:Int)):=by omega
     go_wp2_with fail;go_roundw;case rel=>exact⟨k+1,by omega,by go_num,HB4.out.later (Below.new _ _),HNX2.out HE.out⟩
     case measure=>simp[intOf];omega
    have hl1:(0:Int)<(n1:Int):=by omega
    obtain⟨sb,so,rfl,hsb,hsc⟩:=HS1.out.2 hl0
    have q0:W4.cell? ⟨sb,so,none⟩=some (.string (d.subs.getD 0 ByteArray.empty)):=by
     obtain⟨b',o',e',hb',hc'⟩:=hs1.2 hl0;injection e' with e';injection e' with e1 e2;subst e1 e2;have:=hc' 0 hl0
     rwa [Nat.add_zero]at this
    have hsb4:sb<W4.heap.size:=by obtain⟨b',o',e',hb',hc'⟩:=hs1.2 hl0;injection e' with e';injection e' with e1 e2;subst e1 e2;exact hb'
    clear hsb hsc hs1;generalize d.subs.getD 0 ByteArray.empty=t0 at *;by_cases hs0:t0=⟨#[105]⟩
    case neg =>
     have HE:Hid (ok=true):=by unfold Hid;rw[HOK.out,decide_eq_false (show ¬t0=iS from hs0)];simp
     have hb2:=vE hs0;have hb3:=zAa hs0;clear hs0;go_wp2_with fail;go_roundw;case rel=>exact⟨k+1,by omega,by go_num,HB4.out.later (Below.new _ _),HNX2.out HE.out⟩
     case measure=>simp[intOf];omega
    subst hs0;have HE:Hid (ok=ix):=by unfold Hid;rw[HOK.out,decide_eq_true (rfl:dn=dn),decide_eq_true hl0,decide_eq_true (show(⟨#[105]⟩:ByteArray)=iS from rfl)];simp
    go_wp2_with fail;(try rw[←hW5]);clear hW5;(try go_wp2_with fail);refine HKX.out.mono ?_;rintro e w6 ⟨rfl,hb6⟩;have HB6:=zh (HB5.out.later hb6);clear hb6;cases ix
    · go_wp2_with fail;go_ret;exact⟨by rw[HBAD.out HE.out];rfl,HBB.out.later (HX4.out.later HB6.out)⟩
    · go_wp2_with fail;go_roundw;case rel=>exact⟨k+1,by omega,by go_num,HB4.out.later HB6.out,HNX2.out HE.out⟩
      case measure=>simp[intOf];omega
  · have hki:¬((
     k:Int)<(n:Int)):=by omega
    have HFA:Hid (RES=L.all (zS0 fs b)):=by unfold Hid;rw[HR2.out,zGi (okN b L) fs (fun j hj=>HNO.out j (by have:=HFN.out;omega))];rfl
    clear x0 x1 x2 x3 x4 HR2 HNO;obtain⟨x0,x1,x2,x3,x4⟩:=HSA.out _ HX4.out;go_wp2_with fail;go_loopw [9] (fun i wr=>∃r:Nat,r≤L.length∧i=.int .i64 r∧Below w3.heap.size w3 wr∧Hid (∀j,j<r→zS0 fs b (L.getD j default)=true)) (fun i _=>L.length-(intOf i).toNat);case atStart=>exact⟨0,Nat.zero_le _,rfl,HB4.out,fun j hj=>absurd hj (by omega)⟩
    case round =>
     obtain⟨r,hr,rfl,hbw,HNO⟩:=hrel;obtain⟨W5,rfl⟩:∃W5,W5=wr:=⟨wr,rfl⟩;have HB5:=zh hbw;have HX5:=zh (HB3.out.later hbw);clear hbw x0 x1 x2 x3 x4;obtain⟨x0,x1,x2,x3,x4⟩:=HSA.out _ HX5.out;by_cases hlr:r<L.length
     · have hri:(
        r:Int)<(L.length:Int):=by omega
       obtain⟨rb,ro,rfl,hrb,hrc⟩:=(HRD.out _ HB5.out).2 (by omega);obtain⟨rv,kc,RA,rn,rp,rfl,rs1,rk⟩:=hrc r hlr;have HBAD:Hid (zS0 fs b (L.getD r default)=false→RES=false):=fun h=>by rw[HFA.out,zDS _ _ r hlr h]
       have HRT:Hid (zS0 fs b (L.getD r default)=b.idx.all fun c=>(zI0 1 b.glob b.cols (L.getD r default) c).all (zAr fs)):=rfl
       have HNX2:Hid (zS0 fs b (L.getD r default)=true→∀j,j<r+1→zS0 fs b (L.getD j default)=true):=fun h j hj=>by
        rcases Nat.lt_or_ge j r with h1 | h1
        · exact HNO.out j h1
        · obtain rfl:j=r:=by omega
          exact h
       obtain⟨hsm,hln⟩:=HRW.out r hlr;have HRS:=zh hsm;have HRN:=zh hln;have HROW:Hid (∀W,Below W5.heap.size W5 W→RowR W W.heap.size (.slice RA rn rp) (L.getD r default)):=fun W hW=>⟨RA,rn,rp,rfl,rs1.later hW,rk⟩;have HKC:Hid (∀W,Below W5.heap.size W5 W→W.cell? ⟨rb,ro+r,none⟩=some (.slice RA rn rp)):=fun W hW=>cell_later hW kc;clear hrc kc rs1 hsm hln;generalize L.getD r default=row at *;generalize zS0 fs b row=rt at *;generalize hP:(fun c=>(zI0 1 b.glob b.cols row c).all (zAr fs))=P at *;have HP:Hid (∀c,P c=(zI0 1 b.glob b.cols row c).all (zAr fs)):=by subst hP;exact fun _=>rfl
       clear hP;go_wp2_with fail;go_loopw [10] (fun i wr=>∃m:Nat,m≤n3∧i=.int .i64 m∧Below W5.heap.size W5 wr∧Hid (∀j,j<m→P (b.idx.getD j default)=true)) (fun i _=>n3-(intOf i).toNat);case atStart=>exact⟨0,Nat.zero_le _,rfl,Below.refl _ _,fun j hj=>absurd hj (by omega)⟩
       case round =>
        obtain⟨m,hm,rfl,hbw,HNM⟩:=hrel;obtain⟨W6,rfl⟩:∃W6,W6=wr:=⟨wr,rfl⟩;have HB6:=zh hbw;have HX6:=zh (HX5.out.later hbw);clear hbw x0 x1 x2 x3 x4;obtain⟨x0,x1,x2,x3,x4⟩:=HSA.out _ HX6.out;by_cases hlm:m<n3
        · have hmi:(m:Int)<(n3:Int):=by omega
          obtain⟨ib,io,rfl,hib,hic⟩:=(HC3.out _ (HBB.out.later HX6.out)).2 (by omega);have hm0:=hic m hlm;have HBM:Hid (P (b.idx.getD m default)=false→RES=false):=fun h=>HBAD.out (by rw[HRT.out];exact zDS _ _ m (by rw[HL3.out];exact hlm) h)
          have HNM2:Hid (P (b.idx.getD m default)=true→∀j,j<m+1→P (b.idx.getD j default)=true):=fun h j hj=>by
           rcases Nat.lt_or_ge j m with h1 | h1
           · exact HNM.out j h1
           · obtain rfl:j=m:=by omega
             exact h
          have hcm:b.idx.getD m ByteArray.empty∈b.idx:=zAe b.idx m (by rw[HL3.out];exact hlm);have hcp:=HIX.out _ hcm;have hcs:(b.idx.getD m ByteArray.empty).size≤1048576:=HBS.out.2.2.2.2 _ hcm;have hcl:=(xJ b.cols (b.idx.getD m ByteArray.empty)).2;have HKL:=zh (fun W (hW:Below W6.heap.size W6 W)=>zAM (.string nm) (.string gl) (.slice A2 n2 p2) (.slice (some ⟨ib,io,none⟩) n3 p3) (.slice RA rn rp) b row (b.idx.getD m ByteArray.empty) 1 W (HTX.out _ (HBB.out.later (HX6.out.later hW))) (HROW.out _ (HB6.out.later hW)) (by rw[HL2.out];exact hn2) (by omega) (by rw[HRN.out];have:=HL2.out;omega));have HSML:=zh (zIm (kind:=1) (g:=b.glob) (cols:=b.cols) HBS.out.2.1 HRS.out hcs);have hcl1:(zI0 1 b.glob b.cols row (b.idx.getD m ByteArray.empty)).length≤1:=by unfold zI0;split <;> simp
          have HPM:Hid (P (b.idx.getD m default)=(zI0 1 b.glob b.cols row (b.idx.getD m ByteArray.empty)).all (zAr fs)):=HP.out _;have HS18:Hid (∀W,Below W6.heap.size W6 W→(W.cell? ⟨w.heap.size,0,none⟩=some (.slice A n c)∧W.cell? ⟨w.heap.size+1,0,none⟩=some (.string nm)∧W.cell? ⟨w.heap.size+1,1,none⟩=some (.string gl)∧W.cell? ⟨w.heap.size+1,2,none⟩=some (.slice A2 n2 p2)∧W.cell? ⟨w.heap.size+1,3,none⟩=some (.slice (some ⟨ib,io,none⟩) n3 p3)∧W.cell? ⟨rb,ro+r,none⟩=some (.slice RA rn rp)∧W.cell? ⟨ib,io+m,none⟩=some (.string (b.idx.getD m ByteArray.empty)))):=fun W hW=>by obtain⟨y0,y1,y2,y3,y4⟩:=HSA.out _ (HX6.out.later hW);exact⟨y0,y1,y2,y3,y4,HKC.out _ (HB6.out.later hW),cell_later hW hm0⟩
          clear hic hm0 hcm hcp hcs hcl;generalize b.idx.getD m ByteArray.empty=ic at *;generalize P ic=pm at *;generalize zI0 1 b.glob b.cols row ic=cl at *
          go_upto_region 18 with fail
          go_cut [11] (fun v wx=>∃(LA:Option Addr) (lc:Nat),v=.slice LA cl.length lc∧Hid (Below W6.heap.size W6 wx)∧Hid (Chgs wx wx.heap.size LA cl.length cl))
          case first=>as_aux_lemma =>
           clear x0 x1 x2 x3 x4;obtain⟨z0,z1,z2,z3,z4,z5,z6⟩:=HS18.out _ (Below.refl _ _)
           go_region_held3 (fun W=>W.cell? ⟨w.heap.size,0,none⟩=some (.slice A n c)∧W.cell? ⟨w.heap.size+1,0,none⟩=some (.string nm)∧W.cell? ⟨w.heap.size+1,1,none⟩=some (.string gl)∧W.cell? ⟨w.heap.size+1,2,none⟩=some (.slice A2 n2 p2)∧W.cell? ⟨w.heap.size+1,3,none⟩=some (.slice (some ⟨ib,io,none⟩) n3 p3)∧W.cell? ⟨rb,ro+r,none⟩=some (.slice RA rn rp)∧W.cell? ⟨ib,io+m,none⟩=some (.string ic))
            (first | exact HS18.out _ (Below.refl _ _).drew | exact HS18.out _ Hb.out | go_keep)
            ((go_at_call 61
              refine(HKL.out _ (by exact(Below.refl _ _).drew)).mono ?_;rintro e wb ⟨lv,rfl,hcs,hbb⟩;obtain⟨LA,lc,rfl,_,hch⟩:=hcs.reads;have Hb:Hid (Below W6.heap.size W6 wb):=((Below.refl _ _).drew).later hbb
              have HCH:=zh hch))
           go_wp2_with fail
           go_meet
           case rel=>exact⟨LA,lc,rfl,Hb.out,HCH.out⟩
          case rest=>as_aux_lemma =>
          obtain⟨LA,lc,rfl,HBX,HCH⟩:=hcut;obtain⟨W7,rfl⟩:∃W7,W7=wc:=⟨wc,rfl⟩;have HX7:=zh (HX6.out.later HBX.out);have HB7:=zh (HB6.out.later HBX.out);clear x0 x1 x2 x3 x4 HS18 HKL;have x0:=(HSA.out _ HX7.out).1;go_wp2_with fail;go_loopw [12] (fun i wr=>∃q:Nat,q≤cl.length∧i=.int .i64 q∧Below W7.heap.size W7 wr∧Hid (∀j,j<q→zAr fs (cl.getD j default)=true)) (fun i _=>cl.length-(intOf i).toNat);case atStart=>exact⟨0,Nat.zero_le _,rfl,Below.refl _ _,fun j hj=>absurd hj (by omega)⟩
          case round =>
           obtain⟨q,hq,rfl,hbw,HNQ⟩:=hrel;obtain⟨W8,rfl⟩:∃W8,W8=wr:=⟨wr,rfl⟩;have HB8:=zh hbw;have HX8:=zh (HX7.out.later hbw);clear hbw x0;by_cases hlq:q<cl.length
           · have hqi:(q:Int)<(cl.length:Int):=by omega
             obtain⟨lb,lo,rfl,hlb,hlc⟩:=(HCH.out.later HB8.out).2 (by omega);obtain⟨e0,e1,e2,e3,d0,d1,d2,d3,rfl,rfl,⟨EA,en2,ep,rfl,es,ek⟩,rfl⟩:=hlc q hlq;have hsz:=HSML.out _ (zAe cl q hlq);have hm2:en2≤1048576:=by rw[←es.1];exact hsz.2.1
             have HBQ:Hid (zAr fs (cl.getD q default)=false→RES=false):=fun h=>HBM.out (by rw[HPM.out];exact zDS _ _ q hlq h)
             have HNQ2:Hid (zAr fs (cl.getD q default)=true→∀j,j<q+1→zAr fs (cl.getD j default)=true):=fun h j hj=>by
              rcases Nat.lt_or_ge j q with h1 | h1
              · exact HNQ.out j h1
              · obtain rfl:j=q:=by omega
                exact h
             have HTH:Hid (zAr fs (cl.getD q default)=decide (zBw fs (cl.getD q default).name (cl.getD q default).subs % 10=1)):=rfl;have hdn:=zLm fs (cl.getD q default).name (cl.getD q default).subs;have HKQ:=zh (fun W (hW:Below W8.heap.size W8 W)=>HKD.out W (HBB.out.later (HX8.out.later hW)) EA en2 ep (cl.getD q default).name (cl.getD q default).subs (es.later hW) hm2 hsz.1 hsz.2.2);have HS22:Hid (∀W,Below W8.heap.size W8 W→(W.cell? ⟨w.heap.size,0,none⟩=some (.slice A n c)∧W.cell? ⟨lb,lo+q*4+1,none⟩=some (.string (cl.getD q default).name)∧W.cell? ⟨lb,lo+q*4+2,none⟩=some (.slice EA en2 ep))):=fun W hW=>⟨(HSA.out _ (HX8.out.later hW)).1,cell_later hW d1,cell_later hW d2⟩;clear hlc d0 d1 d2 d3 hsz es hm2;generalize zAr fs (cl.getD q default)=th at *;generalize zBw fs (cl.getD q default).name (cl.getD q default).subs=z at *;generalize (cl.getD q default).name=en at *
             go_upto_region 22 with fail
             go_cut [109] (fun v wx=>v=.bool (!th)∧Hid (Below W8.heap.size W8 wx))
             case first=>as_aux_lemma =>
              obtain⟨z0,z1,z2⟩:=HS22.out _ (Below.refl _ _);have hrm:z.tmod 10=z % 10:=Int.tmod_eq_emod_of_nonneg hdn;by_cases hz1:z % 10=1
              · have hE:th=true:=by rw[HTH.out,decide_eq_true hz1]
                have hz2:z.tmod 10=1:=hrm.trans hz1;subst hE;clear hrm hz1 HTH
                go_region_held3 (fun W=>W.cell? ⟨w.heap.size,0,none⟩=some (.slice A n c)∧W.cell? ⟨lb,lo+q*4+1,none⟩=some (.string en)∧W.cell? ⟨lb,lo+q*4+2,none⟩=some (.slice EA en2 ep))
                 (first | exact HS22.out _ (Below.refl _ _).drew | exact HS22.out _ Hb.out | go_keep)
                 ((go_at_call 42
                   refine(HKQ.out _ (by exact(Below.refl _ _).drew)).mono ?_;rintro e wb ⟨rfl,hbb⟩
                   have Hb:Hid (Below W8.heap.size W8 wb):=((Below.refl _ _).drew).later hbb))
                go_wp2_with fail
                go_meet
                case rel=>exact⟨by first | rfl | simp,Hb.out⟩
              · have hE:th=false:=by rw[HTH.out,decide_eq_false hz1]
                have hz2:¬z.tmod 10=1:=by rw[hrm];exact hz1
                have hz3:(z.tmod 10==1)=false:=beq_eq_false_iff_ne.2 hz2;have hz4:(z.tmod 10 != 1)=true:=by simp[bne,hz3]
                subst hE;clear hrm hz1 HTH
                go_region_held3 (fun W=>W.cell? ⟨w.heap.size,0,none⟩=some (.slice A n c)∧W.cell? ⟨lb,lo+q*4+1,none⟩=some (.string en)∧W.cell? ⟨lb,lo+q*4+2,none⟩=some (.slice EA en2 ep))
                 (first | exact HS22.out _ (Below.refl _ _).drew | exact HS22.out _ Hb.out | go_keep)
                 ((go_at_call 42
                   refine(HKQ.out _ (by exact(Below.refl _ _).drew)).mono ?_;rintro e wb ⟨rfl,hbb⟩
                   have Hb:Hid (Below W8.heap.size W8 wb):=((Below.refl _ _).drew).later hbb))
                go_wp2_with fail
                go_meet
                case rel=>exact⟨by first | rfl | simp,Hb.out⟩
             case rest=>as_aux_lemma =>
             obtain⟨rfl,HBC⟩:=hcut;cases th
             · go_wp2_with fail;go_ret;exact⟨by rw[HBQ.out (by first | rfl | trivial)];rfl,HBB.out.later (HX8.out.later HBC.out)⟩
             · have HNQ3:=zh (HNQ2.out (by first | rfl | trivial));go_wp2_with fail;go_roundw;case rel=>exact⟨q+1,by omega,by go_num,HB8.out.later HBC.out,HNQ3.out⟩
               case measure=>simp[intOf];omega
           · have hqi:¬((q:Int)<(cl.length:Int)):=by omega
             have HPT:Hid (pm=true):=by unfold Hid;rw[HPM.out];exact zGi _ _ (fun j hj=>HNQ.out j (by omega))
             have HNM3:=zh (HNM2.out HPT.out);go_wp2_with fail;go_roundw;case rel=>exact⟨m+1,by omega,by go_num,HB7.out.later HB8.out,HNM3.out⟩
             case measure=>simp[intOf];omega
        · have hmi:¬((m:Int)<(n3:Int)):=by omega
          have HRTT:Hid (rt=true):=by unfold Hid;rw[HRT.out];exact zGi _ _ (fun j hj=>HNM.out j (by have:=HL3.out;omega))
          have HNX3:=zh (HNX2.out HRTT.out);go_wp2_with fail;go_roundw;case rel=>exact⟨r+1,by omega,by go_num,HB5.out.later HB6.out,HNX3.out⟩
          case measure=>simp[intOf];omega
     · have hri:¬((r:Int)<(L.length:Int)):=by omega
       have HRF:Hid (RES=true):=by unfold Hid;rw[HFA.out];exact zGi _ _ (fun j hj=>HNO.out j (by omega))
       go_wp2_with fail;go_ret;exact⟨by rw[HRF.out];rfl,HBB.out.later HX5.out⟩
end Go.Proofs.YtgmaamnofhmecaaGreatDoor
