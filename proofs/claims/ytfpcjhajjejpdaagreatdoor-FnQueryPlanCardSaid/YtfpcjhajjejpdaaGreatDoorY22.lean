import Derived.Test.YtfpcjhajjejpdaaGreatDoorY15
import Derived.Test.YtfpcjhajjejpdaaGreatDoorY10
import Derived.Test.YtfpcjhajjejpdaaGreatDoorY11
import Derived.Test.YtfpcjhajjejpdaaGreatDoorY19
import Derived.Test.YtfpcjhajjejpdaaGreatDoorY20
import Derived.Test.YtfpcjhajjejpdaaGreatDoorY21
import Derived.Deep.RegionHeld3
set_option maxHeartbeats 4000000
open Go.Lib renaming hid → zh
namespace Go.Proofs.YtfpcjhajjejpdaaGreatDoor
open Go.RowKit
theorem zFK (a b:ByteArray) (w:World) (htab:uX w) (ha:a.size≤1048576) (hb:b.size≤1048576) :
 Calls Tryz.prog 54 #[.string a,.string b] w fun e w'=>e=.returned (.bool (wB a b))∧Below w.heap.size w w':=by
 have HK:=zh (zCe a b w htab ha hb);have hR:=zBz a b;generalize wB a b=R at *;generalize vZ a b=y at *;have HR:=zh hR;clear hR;go_enter Tryz.func54,Tryz.ntmps54;go_wp2_with fail;refine HK.out.mono ?_;rintro e w1 ⟨rfl,hb1⟩;have HB:=zh hb1;clear hb1;go_wp2_with fail;go_ret;exact⟨zA0 HR.out,HB.out⟩
theorem zHw (cell:ByteArray) (c0 c1 c2:Value) (d:CondD) (w:World) (htab:uX w) (h:CondR w w.heap.size c0 c1 c2 d) (hs:d.small) (hc:cell.size≤1048576) :
 Calls Tryz.prog 13 #[.string cell,.agg #[c0,c1,c2]] w fun e w'=>e=.returned (.bool (xU cell d))∧Below w.heap.size w w':=by
 obtain⟨rfl,rfl,rfl⟩:=h;have HR:Hid (xU cell d=(if d.op=1 then decide (cell=d.val) else if d.op=4 then decide (cell≠d.val) else if d.op=2 then wB cell d.val else if d.op=3 then wB d.val cell else false)):=rfl;have HK1:=zh (fun o=>zFK cell d.val (w.alloc o) (vF htab (Below.new _ _)) hc hs.2);have HK2:=zh (fun o=>zFK d.val cell (w.alloc o) (vF htab (Below.new _ _)) hs.2 hc);have HB0:=zh (fun o=>Below.new w o);clear hs hc htab;generalize xU cell d=R at *;generalize d.op=op at *;generalize d.col=cl at *;generalize d.val=vl at *;go_enter Tryz.func13,Tryz.ntmps13;by_cases h1:op=1
 · have HE:Hid (R=decide (cell=vl)):=by unfold Hid;rw[HR.out,if_pos h1]
   subst h1;clear HR;by_cases he:cell=vl
   · have HE2:Hid (R=true):=by unfold Hid;rw[HE.out,decide_eq_true he]
     subst he;go_wp2_with fail;go_ret;exact⟨zA0 HE2.out.symm,HB0.out _⟩
   · have HE2:Hid (R=false):=by unfold Hid;rw[HE.out,decide_eq_false he]
     have hbe:=zB0 he;clear he;go_wp2_with fail;go_ret;exact⟨zA0 HE2.out.symm,HB0.out _⟩
 by_cases h4:op=4
 · have HE:Hid (R=decide (cell≠vl)):=by unfold Hid;rw[HR.out,if_neg h1,if_pos h4]
   subst h4;clear HR h1;by_cases he:cell=vl
   · have HE2:Hid (R=false):=by unfold Hid;rw[HE.out,decide_eq_false (fun h=>h he)]
     subst he;go_wp2_with fail;go_ret;exact⟨zA0 HE2.out.symm,HB0.out _⟩
   · have HE2:Hid (R=true):=by unfold Hid;rw[HE.out,decide_eq_true he]
     have hbe:=zB0 he;have hbn:=yJ he;clear he;go_wp2_with fail;go_ret;exact⟨zA0 HE2.out.symm,HB0.out _⟩
 by_cases h2:op=2
 · have HE:Hid (R=wB cell vl):=by unfold Hid;rw[HR.out,if_neg h1,if_neg h4,if_pos h2]
   subst h2;clear HR h1 h4;generalize wB cell vl=x at *;go_wp2_with fail;refine(HK1.out _).mono ?_;rintro e w1 ⟨rfl,hb1⟩;have HB:=zh ((HB0.out _).later hb1);clear hb1;go_wp2_with fail;go_ret;exact⟨zA0 HE.out.symm,HB.out⟩
 by_cases h3:op=3
 · have HE:Hid (R=wB vl cell):=by unfold Hid;rw[HR.out,if_neg h1,if_neg h4,if_neg h2,if_pos h3]
   subst h3;clear HR h1 h4 h2;generalize wB vl cell=x at *;go_wp2_with fail;refine(HK2.out _).mono ?_;rintro e w1 ⟨rfl,hb1⟩;have HB:=zh ((HB0.out _).later hb1);clear hb1;go_wp2_with fail;go_ret;exact⟨zA0 HE.out.symm,HB.out⟩
 · have HE:Hid (R=false):=by unfold Hid;rw[HR.out,if_neg h1,if_neg h4,if_neg h2,if_neg h3]
   have i1:=yF h1;have i2:=yF h2;have i3:=yF h3;have i4:=yF h4;clear HR h1 h2 h3 h4;go_wp2_with fail;go_ret;exact⟨zA0 HE.out.symm,HB0.out _⟩
set_option maxRecDepth 100000 in
theorem zDi (b0 b1 b2 b3 r0:Value) (b:TableD) (row:List ByteArray) (col:ByteArray) (j:Nat) (w:World) (hb:TableR w w.heap.size b0 b1 b2 b3 b) (hr:RowR w w.heap.size r0 row) (hbs:b.small) (hp:xA b.cols col=j) (hj:j<row.length) :
 Calls Tryz.prog 85 #[.agg #[b0,b1,b2,b3],.agg #[r0],.string col] w fun e w'=>e=.returned (.string (row.getD j ByteArray.empty))∧Below w.heap.size w w':=by
 obtain⟨rfl,rfl,⟨A2,n2,p2,rfl,s2,k2⟩,⟨A3,n3,p3,rfl,s3,k3⟩⟩:=hb;obtain⟨R0,rn,rc,rfl,hS,hrc⟩:=hr;have hn2:n2≤1048576:=by rw[←s2.1];exact hbs.2.2.1.1
 have hjn:j<rn:=by rw[←hS.1];exact hj
 have HKP:=zh (fun W (hW:Below w.heap.size w W)=>(zFH A2 n2 p2 b.cols col W (s2.later hW) hn2).mono (R':=fun e w'=>e=.returned (.int .i64 (j:Nat))∧Below W.heap.size W w') (fun e w' ⟨h1,h2⟩=>⟨by rw[h1,hp],h2 ▸ Below.refl _ _⟩));obtain⟨rb,ro,rfl,hrb,hcell⟩:=hS.2 (by omega);have hck:=hcell j hjn;have hjz:(j:Int)<(rn:Int):=by omega
 have HB0:=zh ((Below.new w (.cells #[.string b.name,.string b.glob,.slice A2 n2 p2,.slice A3 n3 p3] 29)).later (Below.new _ (.cells #[.slice (some ⟨rb,ro,none⟩) rn rc] 40)));obtain⟨WB,hWB⟩:∃WB,WB=(w.alloc (.cells #[.string b.name,.string b.glob,.slice A2 n2 p2,.slice A3 n3 p3] 29)).alloc (.cells #[.slice (some ⟨rb,ro,none⟩) rn rc] 40):=⟨_,rfl⟩;have HX0:Hid (Blk WB w.heap.size 29 #[.string b.name,.string b.glob,.slice A2 n2 p2,.slice A3 n3 p3]):=by subst hWB;exact yC _ _ _
 have HX1:Hid (Blk WB (w.heap.size+1) 40 #[.slice (some ⟨rb,ro,none⟩) rn rc]):=by subst hWB;exact vB _ _ _
 have HBB:Hid (Below w.heap.size w WB):=by subst hWB;exact HB0.out
 have HRd:Hid (∀W',Below WB.heap.size WB W'→(W'.cell? ⟨w.heap.size,2,none⟩=some (.slice A2 n2 p2)∧W'.cell? ⟨w.heap.size+1,0,none⟩=some (.slice (some ⟨rb,ro,none⟩) rn rc)∧W'.cell? ⟨rb,ro+j,none⟩=some (.string (row.getD j ByteArray.empty)))):=fun W' hW=>⟨((HX0.out.later hW HX0.out.lt).cell 2).trans rfl,((HX1.out.later hW HX1.out.lt).cell 0).trans rfl,((HBB.out.later hW).cell (p:=⟨rb,ro+j,none⟩) hrb).trans hck⟩;clear s2 s3 hS hbs hcell hck;generalize row.getD j ByteArray.empty=s at *;go_enter Tryz.func85,Tryz.ntmps85;go_wp2_with fail;rw[←hWB];clear hWB HB0;obtain⟨x0,x1,x2⟩:=HRd.out _ (Below.refl _ _)
 go_region_held3 (fun W'=>W'.cell? ⟨w.heap.size,2,none⟩=some (.slice A2 n2 p2)∧W'.cell? ⟨w.heap.size+1,0,none⟩=some (.slice (some ⟨rb,ro,none⟩) rn rc)∧W'.cell? ⟨rb,ro+j,none⟩=some (.string s))
  (first | exact HRd.out _ hb1 | exact HRd.out _ (Below.refl WB.heap.size WB).drew)
  (first | (go_at_call 127;refine(HKP.out _ (by exact HBB.out.drew)).mono ?_;rintro e w1 ⟨rfl,hb1'⟩;have hb1:=wD hb1';clear hb1'))
 have HB1:=zh (HBB.out.later hb1);clear hb1;go_wp2_with fail;go_ret;exact⟨rfl,HB1.out⟩
theorem zGU (b0 b1 b2 b3 c0 c1 c2 c3 c4 c5:Value) (b:TableD) (d:QueryD) (w:World) (hb:TableR w w.heap.size b0 b1 b2 b3 b) (h:QueryR w w.heap.size c0 c1 c2 c3 c4 c5 d) :
 Calls Tryz.prog 115 #[.agg #[b0,b1,b2,b3],.agg #[c0,c1,c2,c3,c4,c5]] w fun e w'=>e=.returned (if d.cols.length=0 then b2 else c1)∧Below w.heap.size w w':=by
 obtain⟨rfl,rfl,⟨A2,n2,p2,rfl,s2,k2⟩,⟨A3,n3,p3,rfl,s3,k3⟩⟩:=hb;obtain⟨rfl,⟨B1,m1,q1,rfl,t1,l1⟩,⟨B2,m2,q2,rfl,t2,l2⟩,rfl,rfl,rfl⟩:=h;have HB0:=zh (fun o o'=>(Below.new w o).later (Below.new _ o'));rw[t1.1];clear s2 s3 t1 t2;go_enter Tryz.func115,Tryz.ntmps115;by_cases h0:m1=0
 · subst h0;go_wp2_with fail;go_ret;exact⟨rfl,HB0.out _ _⟩
 · have i1:((m1:Int)==0)=false:=by rw[beq_eq_false_iff_ne];omega
   have i2:(m1==0)=false:=by rw[beq_eq_false_iff_ne];omega
   rw[if_neg h0];clear h0;go_wp2_with fail;go_ret;exact⟨rfl,HB0.out _ _⟩
end Go.Proofs.YtfpcjhajjejpdaaGreatDoor
namespace Go.Proofs.YtfpcjhajjejpdaaGreatDoor
open Go.RowKit
set_option maxRecDepth 100000 in
theorem zGW (bk rk:Nat) (b0 b1 b2 b3 r0 c0 c1 c2:Value) (b:TableD) (row:List ByteArray) (d:CondD) (j:Nat) (w:World) (htab:uX w) (hkb:Blk w bk 29 #[b0,b1,b2,b3]) (hkr:Blk w rk 40 #[r0]) (hb:TableR w w.heap.size b0 b1 b2 b3 b) (hr:RowR w w.heap.size r0 row) (h:CondR w w.heap.size c0 c1 c2 d)
 (hbs:b.small) (hrs:wH row) (hs:d.small) (hp:xA b.cols d.col=j) (hj:j<row.length) :
 Calls Tryz.prog 111 #[.agg #[c0,c1,c2],.pointer (some ⟨bk,0,none⟩),.pointer (some ⟨rk,0,none⟩)] w fun e w'=>e=.returned (.bool (!xU (row.getD j ByteArray.empty) d))∧Below w.heap.size w w':=by
 have HKc:=zh (fun W (hW:Below w.heap.size w W)=>zDi b0 b1 b2 b3 r0 b row d.col j W (hb.later hW) (hr.later hW) hbs hp hj);have HKt:=zh (fun W (hW:Below w.heap.size w W)=>zHw (row.getD j ByteArray.empty) c0 c1 c2 d W (vF htab hW) (h.later hW) hs (hrs.2 _ (uD row j hj)));obtain⟨rfl,rfl,⟨A2,n2,p2,rfl,s2,k2⟩,⟨A3,n3,p3,rfl,s3,k3⟩⟩:=hb;obtain⟨R0,rn,rc,rfl,hS,hrc⟩:=hr;obtain⟨rfl,rfl,rfl⟩:=h;have HB0:=zh (Below.new w (.cells #[.string d.col,.int .i64 d.op,.string d.val] 44));have HX0:=zh (xC (W:=w) (o:=.cells #[.string d.col,.int .i64 d.op,.string d.val] 44) rfl);have HKB:=zh hkb;have HKR:=zh hkr;obtain⟨WB,hWB⟩:∃WB,WB=w.alloc (.cells #[.string d.col,.int .i64 d.op,.string d.val] 44):=⟨_,rfl⟩;have hbk:=hkb.lt;have hrk:=hkr.lt;have HRd:Hid (∀W',Below WB.heap.size WB W'→(W'.cell? ⟨bk,0,none⟩=some (.string b.name)∧W'.cell? ⟨bk,1,none⟩=some (.string b.glob)∧W'.cell? ⟨bk,2,none⟩=some (.slice A2 n2 p2)∧W'.cell? ⟨bk,3,none⟩=some (.slice A3 n3 p3)∧W'.cell? ⟨rk,0,none⟩=some (.slice R0 rn rc)∧W'.cell? ⟨w.heap.size,0,none⟩=some (.string d.col)∧W'.cell? ⟨w.heap.size,1,none⟩=some (.int .i64 d.op)∧W'.cell? ⟨w.heap.size,2,none⟩=some (.string d.val))):=fun W' hW=>by subst hWB;have e1:=HKB.out.later (HB0.out.later hW) hbk;have e2:=HKR.out.later (HB0.out.later hW) hrk;have e3:=Blk.later HX0.out hW (by simp);exact⟨(e1.cell 0).trans rfl,(e1.cell 1).trans rfl,(e1.cell 2).trans rfl,(e1.cell 3).trans rfl,(e2.cell 0).trans rfl,(e3.cell 0).trans rfl,(e3.cell 1).trans rfl,(e3.cell 2).trans rfl⟩
 have HBB:Hid (Below w.heap.size w WB):=by subst hWB;exact HB0.out
 clear s2 s3 hS hkb hkr hbs hrs hs htab hp hj;generalize xU (row.getD j ByteArray.empty) d=y at *;generalize row.getD j ByteArray.empty=cell at *;go_enter Tryz.func111,Tryz.ntmps111;go_wp2_with fail;rw[←hWB];clear hWB HB0 HX0;obtain⟨x0,x1,x2,x3,x4,x5,x6,x7⟩:=HRd.out _ (Below.refl _ _)
 go_region_held3 (fun W'=>W'.cell? ⟨bk,0,none⟩=some (.string b.name)∧W'.cell? ⟨bk,1,none⟩=some (.string b.glob)∧W'.cell? ⟨bk,2,none⟩=some (.slice A2 n2 p2)∧W'.cell? ⟨bk,3,none⟩=some (.slice A3 n3 p3)∧W'.cell? ⟨rk,0,none⟩=some (.slice R0 rn rc)∧W'.cell? ⟨w.heap.size,0,none⟩=some (.string d.col)∧W'.cell? ⟨w.heap.size,1,none⟩=some (.int .i64 d.op)∧W'.cell? ⟨w.heap.size,2,none⟩=some (.string d.val))
  (first | exact HRd.out _ hb2 | exact HRd.out _ hb1 | exact HRd.out _ (Below.refl WB.heap.size WB).drew)
  (first
    | (go_at_call 85;refine(HKc.out _ (by exact HBB.out.drew)).mono ?_;rintro e w1 ⟨rfl,hb1'⟩;have hb1:=wD hb1';clear hb1')
    | (go_at_call 13;refine(HKt.out _ (by exact HBB.out.later hb1)).mono ?_;rintro e w2 ⟨rfl,hb2'⟩;have hb2:=hb1.later hb2';clear hb2'))
 have HB2:=zh (HBB.out.later hb2);clear hb1 hb2;go_wp2_with fail;go_ret;exact⟨rfl,HB2.out⟩
theorem zKU (cols:List ByteArray) (wh:List CondD) (row:List ByteArray):(wh.any fun c=>!xU (row.getD (xA cols c.col).toNat ByteArray.empty) c)=!yI cols wh row:=by
 unfold yI
 induction wh with
 | nil=>rfl
 | cons c r ih=>rw[List.any_cons,List.all_cons,ih];cases xU (row.getD (xA cols c.col).toNat ByteArray.empty) c <;> rfl
set_option maxRecDepth 100000 in
theorem zHN (bk qk:Nat) (b0 b1 b2 b3 c0 c1 c2 c3 c4 c5 r0:Value) (b:TableD) (d:QueryD) (row:List ByteArray) (w:World) (htab:uX w) (hkb:Blk w bk 29 #[b0,b1,b2,b3]) (hkq:Blk w qk 32 #[c0,c1,c2,c3,c4,c5]) (hb:TableR w w.heap.size b0 b1 b2 b3 b) (h:QueryR w w.heap.size c0 c1 c2 c3 c4 c5 d) (hr:RowR w w.heap.size r0 row)
 (hbs:b.small) (hs:d.small) (hrs:wH row) (hfit:∀c∈d.wher,0≤xA b.cols c.col) (hlen:row.length=b.cols.length) :
 Calls Tryz.prog 109 #[.agg #[r0],.pointer (some ⟨qk,0,none⟩),.pointer (some ⟨bk,0,none⟩)] w fun e w'=>e=.returned (.bool (!yI b.cols d.wher row))∧Below w.heap.size w w':=by
 have HR:=zh (zKU b.cols d.wher row);obtain⟨rfl,⟨B1,m1,q1,rfl,t1,l1⟩,⟨B2,m2,q2,rfl,t2,l2⟩,rfl,rfl,rfl⟩:=h;have hm2:m2≤1048576:=by rw[←t2.1];exact hs.2.2.1.1
 obtain⟨R0,rn,rc,rfl,hS,hrc⟩:=hr;have HKB:=zh hkb;have HTB:=zh hb;have HP:Hid (zFG 111 #[.pointer (some ⟨bk,0,none⟩),.pointer (some ⟨w.heap.size,0,none⟩)] (fun c=>!xU (row.getD (xA b.cols c.col).toNat ByteArray.empty) c) d.wher (w.alloc (.cells #[.slice R0 rn rc] 40))):=fun c hc c0 c1 c2 W hW hcr=>by have h1:=hfit c hc;have h2:=(xD b.cols c.col).2;have hBw:Below w.heap.size w W:=(Below.new w _).later hW;exact zGW bk w.heap.size b0 b1 b2 b3 (.slice R0 rn rc) c0 c1 c2 b row c (xA b.cols c.col).toNat W (vF htab hBw) (HKB.out.later hBw HKB.out.lt) (Blk.later (xC rfl) hW (by simp)) (HTB.out.later hBw) (RowR.later ⟨R0,rn,rc,rfl,hS,hrc⟩ hBw) hcr hbs hrs (hs.2.2.1.2 c hc) (by omega) (by rw[hlen];omega)
 have HK:=zh (zAm 111 #[.pointer (some ⟨bk,0,none⟩),.pointer (some ⟨w.heap.size,0,none⟩)] (fun c=>!xU (row.getD (xA b.cols c.col).toNat ByteArray.empty) c) B2 m2 q2 d.wher (w.alloc (.cells #[.slice R0 rn rc] 40)) (t2.later (Below.new _ _)) hm2 (enters_of Tryz.func111 (by kernel_rfl) rfl) HP.out);rw[HR.out]at HK;have x2:=hkq.cell 2;simp at x2;have hq:=hkq.lt;clear hkb hkq hb t1 t2 hS hbs hs hrs hfit htab HP;generalize yI b.cols d.wher row=y at *;go_enter Tryz.func109,Tryz.ntmps109;go_wp2_with fail;refine HK.out.mono ?_;rintro e w1 ⟨rfl,hb1⟩;have HB:=zh ((Below.new w _).later hb1);clear hb1;go_wp2_with fail;go_ret;exact⟨rfl,HB.out⟩
end Go.Proofs.YtfpcjhajjejpdaaGreatDoor
namespace Go.Proofs.YtfpcjhajjejpdaaGreatDoor
open Go.RowKit
theorem zNj (a b:ByteArray):-1≤vZ a b∧vZ a b≤1:=by
 unfold vZ;split
 · unfold zFu;split
   · omega
   · split <;> omega
 · split
   · omega
   · split
     · omega
     · unfold zBJ;split
       · omega
       · split <;> omega
theorem zNi (a b:ByteArray):decide (0<vZ a b)=wB b a:=by
 cases h:wB b a
 · rw[decide_eq_false_iff_not];intro h1;have hne:a≠b:=fun e=>by rw[(vV a b).2 e]at h1;omega
   rcases zBB a b hne with h2 | h2
   · rw[←zBz,decide_eq_true_iff]at h2;omega
   · rw[h]at h2;cases h2
 · rw[decide_eq_true_iff];rcases Int.lt_trichotomy (vZ a b) 0 with h1 | h1 | h1
   · have h2:wB a b=true:=by rw[←zBz];simpa using h1
     have:=yP _ _ _ h h2;rw[yV]at this;cases this
   · rw[(vV a b).1 h1,yV]at h;cases h
   · exact h1
def zJV (desc:Bool) (kk:Nat) (x y:List ByteArray):Int:=if desc=true then -(vZ (x.getD kk ByteArray.empty) (y.getD kk ByteArray.empty)) else vZ (x.getD kk ByteArray.empty) (y.getD kk ByteArray.empty)
theorem zNl (desc:Bool) (kk:Nat) (x y:List ByteArray):decide (zJV desc kk x y<0)=ltK desc kk x y:=by
 unfold zJV ltK;cases desc
 · rw[if_neg (by simp),if_neg (by simp),zBz]
 · rw[if_pos rfl,if_pos rfl,←zNi,Bool.eq_iff_iff];simp
theorem zFC (a b c:ByteArray) (h1:wB a b=false) (h2:wB b c=false):wB a c=false:=by
 cases h:wB a c
 · rfl
 · by_cases e:b=c
   · subst e;rw[h1]at h;cases h
   · rcases zBB b c e with h3 | h3
     · rw[h2]at h3;cases h3
     · have:=yP _ _ _ h h3;rw[h1]at this;cases this
theorem zMm (desc:Bool) (kk:Nat):Stab.Weak (ltK desc kk):=by
 cases desc
 · exact⟨fun a=>by simp[ltK,yV],fun a b c h1 h2=>by simp[ltK]at h1 h2 ⊢;exact yP _ _ _ h1 h2,fun a b c h1 h2=>by simp[ltK]at h1 h2 ⊢;exact zFC _ _ _ h1 h2⟩
 · exact⟨fun a=>by simp[ltK,yV],fun a b c h1 h2=>by simp[ltK]at h1 h2 ⊢;exact yP _ _ _ h2 h1,fun a b c h1 h2=>by simp[ltK]at h1 h2 ⊢;exact zFC _ _ _ h2 h1⟩
end Go.Proofs.YtfpcjhajjejpdaaGreatDoor
namespace Go.Proofs.YtfpcjhajjejpdaaGreatDoor
open Go.RowKit
set_option linter.unusedVariables false
theorem zAe {w W:World} {base n:Nat} {v:Value} {rs:List (List ByteArray)} {cs:List Value} (h:W.ownsRow base 40 1 v n cs) (hn:rs.length=n) (hc:CellsG 1 (zY0 w w.heap.size) rs cs) (hb:Below w.heap.size w W):∃A cap,v=.slice A n cap∧n≤cap∧RowsRd W W.heap.size A n rs:=by
 obtain⟨A,cap,rfl,hcap,_,hA⟩:=Own.own_slice h;refine⟨A,cap,rfl,hcap,hn,fun hp=>?_⟩;obtain⟨g,rfl,hg,_⟩:=hA hp;refine⟨g,0,rfl,hg,fun j hj=>?_⟩;obtain⟨c,hl,⟨v,rfl,hr⟩,hx⟩:=CellsG.at j hc (by omega);refine⟨v,?_,hr.later hb⟩;rw[Nat.zero_add];exact Own.own_cell h j v (by omega) (by simpa using hx 0 (by omega))
theorem zMc {w:World} {B:Nat} (c:List Value) (d:List ByteArray) (h:zY0 w B c d):∀u∈c,u.oneCell'=true:=by
 obtain⟨_,rfl,A,n,cap,rfl,_⟩:=h;intro u hu;rw[List.mem_singleton.1 hu];rfl
theorem zJi {w:World} {B:Nat} {A:Option Addr} {n:Nat} {rs:List (List ByteArray)} (h:RowsRd w B A n rs):∃cs,CellsG 1 (zY0 w B) rs cs∧Reads w B 1 A n cs:=by
 obtain⟨hl,h2⟩:=h;rcases Nat.eq_zero_or_pos n with h0 | h0
 · subst h0;have:rs=[]:=List.eq_nil_of_length_eq_zero hl;subst this;exact⟨[],rfl,rfl,fun h=>absurd h (by omega)⟩
 · obtain⟨b,o,rfl,hb,hc⟩:=h2 h0
   obtain⟨cs,h3,h4⟩:=zBA (R:=zY0 w B) (sz:=1) (w:=w) b rs o (fun j hj=>by
    obtain⟨v,e0,hr⟩:=hc j (by omega);refine⟨[v],rfl,⟨v,rfl,hr⟩,fun t ht=>?_⟩
    match t,ht with
    | 0,_=>rw[Nat.mul_one];exact e0)
   exact⟨cs,h3,by rw[h3.len,hl],fun _=>⟨_,rfl,hb,fun j u hu=>by rw[zIN];exact h4 j u hu⟩⟩
theorem CellsG.mapI {w:World} {B:Nat}:∀(l:List uP),(∀x∈l,RowR w B x.1 x.2)→CellsG 1 (zY0 w B) (l.map Prod.snd) (l.map Prod.fst)
 | [],_=>rfl
 | x::r,h=>⟨[x.1],r.map Prod.fst,rfl,rfl,⟨x.1,rfl,h x (by simp)⟩,CellsG.mapI r (fun y hy=>h y (List.mem_cons_of_mem _ hy))⟩
def zAb (rs:List (List ByteArray)) (cs:List Value):Nat→uP:=fun t=>(cs.getD t (.slice none 0 0),rs.getD t [])
theorem zLm (rs:List (List ByteArray)) (cs:List Value) {n:Nat} (h:cs.length=n):(Stab.seg (zAb rs cs) 0 n).map Prod.fst=cs:=by
 apply List.ext_getElem?;intro i;rw[List.getElem?_map,Stab.seg_at];by_cases hi:i<n
 · rw[if_pos (by omega),Nat.zero_add,List.getElem?_eq_getElem (by omega)];simp[zAb,List.getD_eq_getElem?_getD,List.getElem?_eq_getElem (show i<cs.length by omega)]
 · rw[if_neg (by omega),List.getElem?_eq_none (by omega)];rfl
theorem zLl (rs:List (List ByteArray)) (cs:List Value) {n:Nat} (h:rs.length=n):(Stab.seg (zAb rs cs) 0 n).map Prod.snd=rs:=by
 apply List.ext_getElem?;intro i;rw[List.getElem?_map,Stab.seg_at];by_cases hi:i<n
 · rw[if_pos (by omega),Nat.zero_add,List.getElem?_eq_getElem (show i<rs.length by omega)];simp[zAb,List.getD_eq_getElem?_getD,List.getElem?_eq_getElem (show i<rs.length by omega)]
 · rw[if_neg (by omega),List.getElem?_eq_none (by omega)];rfl
theorem zJM {w0:World} {P:List ByteArray→Prop} {rs:List (List ByteArray)} {cs:List Value} (hc:CellsG 1 (zY0 w0 w0.heap.size) rs cs) (hP:∀r∈rs,P r):GoodR w0 P rs.length (zAb rs cs):=by
 intro t ht;obtain⟨c,hl,⟨v,rfl,hr⟩,hx⟩:=CellsG.at t hc ht;have e:cs[t]?=some v:=by simpa using hx 0 (by omega)
 have e1:(zAb rs cs t).1=v:=by simp[zAb,List.getD_eq_getElem?_getD,e]
 have e2:(zAb rs cs t).2=rs.getD t default:=rfl;rw[e1,e2];exact⟨hP _ (uB rs t ht),hr⟩
theorem zIr {w0 w:World} {P:List ByteArray→Prop} {rs:List (List ByteArray)} {cs:List Value} {g cap:Nat} (h:w.ownsRow w0.heap.size 40 1 (.slice (some ⟨g,0,none⟩) rs.length cap) rs.length cs) (hc:CellsG 1 (zY0 w0 w0.heap.size) rs cs) (hP:∀r∈rs,P r) (hb:Below w0.heap.size w0 w):SrtSt w0 P g rs.length cap w (zAb rs cs):=by
 refine⟨?_,zJM hc hP,hb⟩;unfold SrtR;rw[zLm rs cs (by rw[hc.len];omega)];exact h
theorem zLn {w0 w:World} {P:List ByteArray→Prop} {g n cap:Nat} {d:Nat→uP} (h:SrtSt w0 P g n cap w d):w.ownsRow w0.heap.size 40 1 (.slice (some ⟨g,0,none⟩) n cap) n ((Stab.seg d 0 n).map Prod.fst)∧CellsG 1 (zY0 w0 w0.heap.size) ((Stab.seg d 0 n).map Prod.snd) ((Stab.seg d 0 n).map Prod.fst) :=
 ⟨h.row,CellsG.mapI _ fun x hx=>by
   obtain⟨t,h1,h2,rfl⟩:=Stab.mem_seg.1 hx
   exact(h.good t h2).2⟩
theorem zGY (lt:List ByteArray→List ByteArray→Bool):∀(xs ys:List uP),(Stab.mrg (ltI lt) xs ys).map Prod.snd=Stab.mrg lt (xs.map Prod.snd) (ys.map Prod.snd)
 | [],ys=>by simp[Stab.mrg_nil_left]
 | x::xs,[]=>by simp[Stab.mrg_nil_right]
 | x::xs,y::ys=>by
   have e1:=zGY lt (x::xs) ys;have e2:=zGY lt xs (y::ys);rw[Stab.mrg_cons,List.map_cons,List.map_cons,Stab.mrg_cons];have e:ltI lt y x=lt y.2 x.2:=rfl;rw[e];split
   · rw[List.map_cons,e1];rfl
   · rw[List.map_cons,e2];rfl
termination_by xs ys=>xs.length+ys.length
theorem zMM (lt:List ByteArray→List ByteArray→Bool) (l:List uP):(Stab.srt (ltI lt) l).map Prod.snd=Stab.srt lt (l.map Prod.snd):=by
 have:∀(l acc:List uP),(l.foldl (fun acc r=>Stab.mrg (ltI lt) acc [r]) acc).map Prod.snd=(l.map Prod.snd).foldl (fun acc r=>Stab.mrg lt acc [r]) (acc.map Prod.snd):=by
  intro l
  induction l with
  | nil=>intro acc;rfl
  | cons x r ih=>intro acc;rw[List.foldl_cons,ih,zGY];rfl
 exact this l []
def zAd (b:TableD) (d:QueryD):List ByteArray:=if d.cols.length=0 then b.cols else d.cols
def uN (cols:List ByteArray) (d:QueryD) (rs:List (List ByteArray)):List (List ByteArray):=if d.order=⟨#[]⟩ then rs else Stab.srt (ltK d.desc (xA cols d.order).toNat) rs
def zBy (limit:Int) (rs:List (List ByteArray)):List (List ByteArray):=if limit=0 then rs else rs.take limit.toNat
def wO (cols sel:List ByteArray) (r:List ByteArray):List ByteArray:=sel.map fun c=>r.getD (xA cols c).toNat ByteArray.empty
def wP (b:TableD) (d:QueryD) (rs:List (List ByteArray)):List (List ByteArray):=(zBy d.limit (uN b.cols d (rs.filter (yI b.cols d.wher)))).map (wO b.cols (zAd b d))
end Go.Proofs.YtfpcjhajjejpdaaGreatDoor
namespace Go.Proofs.YtfpcjhajjejpdaaGreatDoor
open Go.RowKit
set_option linter.unusedVariables false
theorem zJw (cols:List ByteArray) (d:QueryD) (st:List ByteArray→Bool) (rs:List (List ByteArray)) (k:Nat) (h:k<rs.length) :
 uN cols d ((rs.take (k+1)).filter st)=if st (rs.getD k default)=true then (if d.order=⟨#[]⟩ then uN cols d ((rs.take k).filter st)++[rs.getD k default] else Stab.mrg (ltK d.desc (xA cols d.order).toNat) (uN cols d ((rs.take k).filter st)) [rs.getD k default]) else uN cols d ((rs.take k).filter st):=by
 rw[zR0 st rs k h];split
 · unfold uN;split
   · rfl
   · rw[Stab.srt_snoc]
 · rfl
theorem zDz {cols:List ByteArray} {d:QueryD} {rs:List (List ByteArray)} {x:List ByteArray} (h:x∈uN cols d rs):x∈rs:=by
 unfold uN at h;split at h
 · exact h
 · exact(Stab.srt_mem _ _).1 h
theorem zDA (cols:List ByteArray) (d:QueryD) (rs:List (List ByteArray)):(uN cols d rs).length=rs.length:=by
 unfold uN;split
 · rfl
 · exact Stab.srt_len _
theorem zHh (limit:Int) (rs:List (List ByteArray)):(zBy limit rs).length=if limit=0 then rs.length else min rs.length limit.toNat:=by
 unfold zBy;split
 · rfl
 · rw[List.length_take,Nat.min_comm]
theorem zMu (limit:Int) (rs:List (List ByteArray)) (k:Nat) (h:k<(zBy limit rs).length):(zBy limit rs).getD k default=rs.getD k default:=by
 unfold zBy at h ⊢;split
 · rfl
 · rename_i hl;rw[if_neg hl,List.length_take]at h;rw[List.getD_eq_getElem?_getD,List.getElem?_take,if_pos (by omega),←List.getD_eq_getElem?_getD]
theorem zHU {α β:Type} [Inhabited α] (f:α→β) (l:List α) (k:Nat) (h:k<l.length):(l.take (k+1)).map f=(l.take k).map f++[f (l.getD k default)]:=by
 rw[List.take_succ_eq_append_getElem h,List.map_append,List.getD_eq_getElem?_getD,List.getElem?_eq_getElem h];rfl
theorem zGo (f:ByteArray→ByteArray) (l:List ByteArray) (k:Nat) (h:k<l.length):(l.take (k+1)).map f=(l.take k).map f++[f (l.getD k ByteArray.empty)]:=by
 rw[List.take_succ_eq_append_getElem h,List.map_append,List.getD_eq_getElem?_getD,List.getElem?_eq_getElem h];rfl
theorem zCT {l:List ByteArray} {x:ByteArray} (h:x∈l):0≤xA l x:=by
 have:=zDy l x;rw[List.any_eq_true.2 ⟨x,h,by simp⟩]at this;exact of_decide_eq_true this
def zCj (rs:List (List ByteArray)) (w:World) (e:Ending) (w':World):Prop:=∃v,e=.returned v∧RowsI w' w.heap.size v rs∧Below w.heap.size w w'
end Go.Proofs.YtfpcjhajjejpdaaGreatDoor
namespace Go.Proofs.YtfpcjhajjejpdaaGreatDoor
open Go.RowKit
set_option linter.unusedVariables false
def zHJ (fs:List NodeD) (b:TableD) (q:QueryD):Int × List (List ByteArray) :=
 if (uA fs&&xK b q)=true then (if (zF0 b.cols (vA b.glob fs)).1=0 then (0,wP b q (zF0 b.cols (vA b.glob fs)).2) else ((zF0 b.cols (vA b.glob fs)).1,[])) else (1,[])
theorem xL {w:World} {base:Nat} {v:Value} {rs:List (List ByteArray)} (h:RowsI w base v rs):∃A cap,v=.slice A rs.length cap∧rs.length≤cap∧RowsRd w w.heap.size A rs.length rs:=by
 obtain⟨vs,h⟩:=h;obtain⟨A,cap,rfl,hc,_,hA⟩:=Own.own_slice h.row;refine⟨A,cap,rfl,hc,rfl,fun hn=>?_⟩;obtain⟨g,rfl,hg,_⟩:=hA hn;refine⟨g,0,rfl,hg,fun j hj=>?_⟩;have h0:=h.cellAt rfl j 0 hj (by decide);obtain⟨A1,cap1,e1,hc1,hs1⟩:=(h.subs j hj).strs;refine⟨_,?_,A1,_,cap1,e1,hs1,hc1⟩;rw[Nat.zero_add];have e:j*rowK.size+0=j:=by show j*1+0=j;omega
 rw[e]at h0;exact h0
theorem zKo {cols key val:ByteArray} {cs:List ByteArray} {x:List ByteArray} (h:zJ0 cs key val=some x):vT cs x=true:=by
 unfold zJ0 at h;split at h
 · simp at h
 · next hh=>simp only[Option.some.injEq]at h;subst h;simp only[Bool.or_eq_true,not_or,Bool.not_eq_true',Bool.not_eq_false]at hh;exact hh.2
theorem zBj {f:NodeD→Option (List ByteArray)}:∀{l:List NodeD} {rs:List (List ByteArray)},uE f l=some rs→rs.length=l.length∧∀r∈rs,∃d,f d=some r
 | [],rs,h=>by simp only[uE,Option.some.injEq]at h;subst h;exact⟨rfl,fun r hr=>by simp at hr⟩
 | d::t,rs,h=>by
   unfold uE at h;split at h
   · simp at h
   · next x hx =>
     cases hu:uE f t with
     | none=>rw[hu]at h;simp at h
     | some ys =>
       rw[hu]at h;simp only[Option.map_some,Option.some.injEq]at h;subst h;obtain⟨h1,h2⟩:=zBj hu;refine⟨by simp[h1],fun r hr=>?_⟩;rcases List.mem_cons.1 hr with h3 | h3
       · subst h3;exact⟨d,hx⟩
       · exact h2 r h3
theorem zIM {s:ByteArray} (h:uL s=true):s.size≤1048576:=by
 unfold uL at h;simp only[Bool.and_eq_true,decide_eq_true_eq]at h;omega
theorem zEN {cs r:List ByteArray} (hc:cs.length≤5) (h:vT cs r=true):wH r∧r.length=cs.length:=by
 unfold vT at h;simp only[Bool.and_eq_true,decide_eq_true_eq,List.all_eq_true]at h;exact⟨⟨by omega,fun s hs=>zIM (h.2.2 s hs)⟩,h.1⟩
theorem zBn {cs:List ByteArray} {ns:List NodeD} (hc:cs.length≤5) (h:(zF0 cs ns).1=0):(zF0 cs ns).2.length≤24∧∀r∈(zF0 cs ns).2,wH r∧r.length=cs.length:=by
 unfold zF0 at h ⊢;split
 · exact⟨by simp,fun r hr=>by simp at hr⟩
 · next hl =>
   cases hu:uE (zCF cs) ns with
   | none=>exact⟨by simp,fun r hr=>by simp at hr⟩
   | some rs=>obtain⟨h1,h2⟩:=zBj hu;refine⟨by simp only[];omega,fun r hr=>?_⟩;obtain⟨d,hd⟩:=h2 r hr;exact zEN hc (zKo (cols:=ByteArray.empty) hd)
theorem zP0 {b:TableD} {q:QueryD} (h:xK b q=true):(0<b.cols.length∧b.cols.length≤5)∧(∀c∈q.wher,0≤xA b.cols c.col)∧(q.order≠⟨#[]⟩→0≤xA b.cols q.order)∧(∀c∈q.cols,0≤xA b.cols c)∧0≤q.limit∧q.limit≤24:=by
 unfold xK at h;simp only[Bool.and_eq_true]at h;obtain⟨ht,hq,_,ho,hc,hw⟩:=h;have hin:∀x,Go.Proofs.YtfpcjhajjejpdaaGreatDoor.inP b.cols x=true→0≤xA b.cols x:=fun x hx=>by unfold Go.Proofs.YtfpcjhajjejpdaaGreatDoor.inP at hx;exact of_decide_eq_true hx
 unfold xP at ht;simp only[Bool.and_eq_true]at ht;obtain⟨_,_,t1,t2,_⟩:=ht;unfold uQ at hq;simp only[Bool.and_eq_true]at hq;obtain⟨_,_,_,_,_,ql,_⟩:=hq;unfold inB at ql;simp only[Bool.and_eq_true]at ql;refine⟨⟨of_decide_eq_true t1,of_decide_eq_true t2⟩,fun c hcm=>hin _ (List.all_eq_true.1 hw c hcm),fun hne=>?_,fun c hcm=>hin _ (List.all_eq_true.1 hc c hcm),of_decide_eq_true ql.1,of_decide_eq_true ql.2⟩;rw[Bool.or_eq_true]at ho;rcases ho with h1 | h1
 · exact absurd (of_decide_eq_true h1) hne
 · exact hin _ h1
end Go.Proofs.YtfpcjhajjejpdaaGreatDoor
