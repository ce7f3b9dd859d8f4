import Derived.Test.YtgmaamnofhmecaaGreatDoorV13
import Derived.Test.YtgmaamnofhmecaaGreatDoorV17
import Derived.Test.YtgmaamnofhmecaaGreatDoorV14
import Derived.Test.YtgmaamnofhmecaaGreatDoorV16
import Derived.Test.YtgmaamnofhmecaaGreatDoorV24
import Derived.Test.YtgmaamnofhmecaaGreatDoorV00
import Derived.Deep.RegionHeld3
set_option maxHeartbeats 4000000
open Go.Lib renaming hid → zh
namespace Go.Proofs.YtgmaamnofhmecaaGreatDoor
open Go.RowKit
theorem zDU {zero:Array Value} {m:Nat} {u:Value} (h:u∈(Builtin.zeroCells zero m).toList):u∈zero.toList:=by
 unfold Builtin.zeroCells at h;simp only[Array.toList_map,List.mem_map]at h;obtain⟨i,hi,rfl⟩:=h;have hi':i<m*zero.size:=by simpa using hi
 have hz:0<zero.size:=by
  rcases Nat.eq_zero_or_pos zero.size with e | e
  · rw[e]at hi';omega
  · exact e
 rw[getElem!_pos zero _ (Nat.mod_lt _ hz)];simp
theorem zKg (w:World):(zeroValue 102).run Tryz.prog w=.ok (.agg #[.string .empty,.slice none 0 0,.string .empty]) w:=by kernel_rfl
def zLW (R:List Value→NodeD→Prop) (base:Nat) (w:World) (fs:List NodeD) (e:Ending) (w':World):Prop:=∃v cs,e=.returned v∧w'.ownsRow base 102 3 v fs.length cs∧CellsG 3 R fs cs∧Below base w w'
set_option maxRecDepth 100000 in
theorem zIK (w0:World) (A:Option Addr) (n c:Nat) (fs:List NodeD) (w:World) (h:Nodes w0 w0.heap.size A n fs) (hb:Below w0.heap.size w0 w) (hn:n≤1048576) :
 Calls Tryz.prog 200 #[.slice A n c] w (zLW (zEk w0 w0.heap.size) w.heap.size w fs):=by
 obtain⟨i0,hi,hz0,hz1,hz2⟩:=info_parts zAy;have hlen:=h.1;obtain⟨cs,hc,hr⟩:=zDv h;have Hh:=zh ((hr.below hb).more hb.size);have HC:=zh hc;have Hlen:=zh hlen;have H1:=zh (hc.all zFt)
 cases A with
 | none =>
   have hn0:n=0:=by
    rcases Nat.eq_zero_or_pos n with h0 | h0
    · exact h0
    · obtain⟨b,o,e,_⟩:=h.2 h0;cases e
   have hf0:Hid (fs.length=0∧cs=[]):=⟨by rw[hlen,hn0],List.eq_nil_of_length_eq_zero (by rw[hc.len,hlen,hn0])⟩;clear h hc hr hlen hb;subst hn0;have hnil:=fun (W:World)=>Lib.run_eql_slice_nil (P:=Tryz.prog) W 24 102 none 0 c 0 0 Tryz.underlying24;go_enter Tryz.func200,Tryz.ntmps200;go_wp2_with fail;go_ret;refine⟨_,cs,rfl,?_,HC.out,Below.refl _ _⟩;rw[hf0.out.1,hf0.out.2];exact World.ownsRow_nil _ _ _ _
 | some ad =>
   clear h hc hr hlen hb;have hnil:=fun (W:World)=>Lib.run_eql_slice_nil (P:=Tryz.prog) W 24 102 (some ad) n c 0 0 Tryz.underlying24;go_enter Tryz.func200,Tryz.ntmps200;go_wp2_with (at_builtin;refine wE _ rfl (.tmp 5) (.tmp 6) 24 rfl w.heap.size 102 i0 _ 3 56 Tryz.underlying24 hi hz0 hz1 hz2 rfl (by decide) _ 0 [] rfl (World.ownsRow_lit _ _ 0 (Nat.le_refl _) (by omega) rfl) w.heap.size (some ad) n c cs rfl (Hh.out.alloc (Nat.le_refl _) _) H1.out ?c1 ?c2 ?c3 ?_);case c1=>unfold maxLen;omega
   case c2=>omega
   case c3=>simp
   intro v w1 ho hg _;have HB:=zh (vS (w0:=w) (size:=3) (n:=0) (xs:=[]) (Below.new _ _) (World.ownsRow_lit _ _ 0 (Nat.le_refl _) (by omega) rfl) (Nat.le_refl _) hg);have HO:=zh ho;clear ho hg;go_wp2_with fail;go_ret;exact⟨_,cs,rfl,by have hx:=HO.out;simpa [Hlen.out] using hx,HC.out,HB.out⟩
set_option maxRecDepth 100000 in
theorem zDL (g:Nat) (lb:Array Value) (p:NodeD→Bool) (v:Value) (fs:List NodeD) (cs:List Value) (w0 w:World) (R:List Value→NodeD→Prop) (hR:∀c d,R c d→zEk w0 w0.heap.size c d) (h:w.ownsRow w0.heap.size 102 3 v fs.length cs) (hc:CellsG 3 R fs cs) (hb:Below w0.heap.size w0 w) (hn:fs.length≤1048576)
 (eg:∀args w,(callFunc g args).run Tryz.prog w=.ok (.enter g args) w) (hg:zES g lb p fs w0) :
 Calls Tryz.prog 199 #[v,.func (.func g) #[] lb] w (zLW R w0.heap.size w0 (fs.filter fun d=>!p d)):=by
 obtain⟨A,cap,rfl,hcap,hN⟩:=uI h rfl (cellsN_iff.2 (hc.mono hR)) hb;obtain⟨_,_,e0,_,hcm,hA⟩:=Own.own_slice h;injection e0 with e1 _ e2;subst e1 e2;have HK:=zh (zCN g lb p A fs.length cap fs w hN hn eg (fun d hd c0 c1 c2 W hW hr=>hg d hd c0 c1 c2 W (hb.trans (hW.mono hb.size)) hr));have HX:=zh (zEw p fs 0);have HO0:=zh h;have HC:=zh hc;have HB0:=zh hb;have Hg:=zh hg;clear h hc hb hg hN;rcases HX.out with ⟨e1,e2⟩ | ⟨k0,hk0,e1,e2⟩
 · rw[e1]at HK;rw[e2];clear e1 e2 HX;go_enter Tryz.func199,Tryz.ntmps199;go_wp2_with fail;refine HK.out.mono ?_;rintro e w1 ⟨rfl,hb1⟩;have HB1:=zh hb1;clear hb1;go_wp2_with fail;go_ret;exact⟨_,cs,rfl,Own.own_later HO0.out HB1.out,HC.out,HB0.out.later HB1.out⟩
 · rw[e1,Nat.zero_add]at HK;obtain⟨g0,rfl,hgl,hgb⟩:=hA (by omega);have HS:=zh (KeptG.start (p:=p) HC.out hk0 e2);have HL:Hid (cs.length=fs.length*3):=HC.out.len;clear e1 e2 HX hA;generalize hnn:fs.length=n at *;have Hlen:=zh hnn;clear hnn;have hne1:((k0:Int)==-1)=false:=beq_eq_false_iff_ne.2 (by omega);go_enter Tryz.func199,Tryz.ntmps199;go_wp2_with fail;refine HK.out.mono ?_;rintro e w1 ⟨rfl,hb1⟩;have HO1:=zh (Own.own_later HO0.out hb1);have HB1:=zh (HB0.out.later hb1);clear hb1;go_wp2_with fail;go_loopw [5,6] (fun i j wr=>∃(ii jj:Nat) (ys:List Value),i=.int .i64 ii∧j=.int .i64 jj∧wr.ownsRow w0.heap.size 102 3 (.slice (some ⟨g0,0,none⟩) n cap) n ys∧Hid (KeptG 3 R p fs cs ii jj ys)∧Below w0.heap.size w0 wr) (fun _ j _=>n-(intOf j).toNat);case atStart=>exact⟨k0,k0+1,cs,rfl,by go_num,HO1.out,HS.out,HB1.out⟩
   case round =>
    obtain⟨i,j,ys,rfl,rfl,ho,hK,hb⟩:=hrel;have HO:=zh ho;have HB:=zh hb;have hij:=hK.out.lt;have hjn:j≤n:=by have:=hK.out.le;rw[Hlen.out]at this;exact this
    have hyl:ys.length=n*3:=ho.1;clear ho hb;by_cases hlt:j<n
    · have hl:j<fs.length:=by rw[Hlen.out];exact hlt
      obtain⟨c,_,hRd,hq⟩:=CellsG.at j HC.out hl;obtain⟨c0,c1,c2,rfl,hd⟩:=hR _ _ hRd;have q0:cs[j*3]?=some c0:=hq 0 (by omega);have q1:cs[j*3+1]?=some c1:=hq 1 (by omega);have q2:cs[j*3+2]?=some c2:=hq 2 (by omega);clear hq;have x0:=Own.own_cell HO.out (j*3) c0 (by omega) ((hK.out.cell 0).trans q0);have x1:=Own.own_cell HO.out (j*3+1) c1 (by omega) ((hK.out.cell 1).trans q1);have x2:=Own.own_cell HO.out (j*3+2) c2 (by omega) ((hK.out.cell 2).trans q2);have HP:=zh (fun o=>Hg.out (fs.getD j default) (xD fs j hl) c0 c1 c2 (wr.alloc o) (HB.out.later (Below.new _ _)) (hd.later (HB.out.later (Below.new _ _))));have HKeep:=zh (fun hp=>hK.out.keep (by rw[Hlen.out];exact HL.out) hl hp hRd rfl);clear hRd;have HSkip:=zh (fun hp=>hK.out.skip hl hp);clear q0 q1 q2 hl;generalize fs.getD j default=d at *;generalize hx:p d=x at *;clear hx;obtain⟨rfl,⟨A1,n1,p1,rfl,_,_⟩,rfl⟩:=hd;generalize d.name=nm at *;generalize d.val=vl at *;go_wp2_with fail;refine(HP.out _).mono ?_;rintro e w2 ⟨rfl,hb2⟩;have b0:=zIw hb2 0;have b1:=zIw hb2 1;have b2:=zIw hb2 2;simp at b0 b1 b2;have hO2:=Own.own_later (Own.own_later HO.out (Below.new wr _)) hb2;have HB2:=zh (HB.out.later ((Below.new wr _).later hb2));have HO2:=zh hO2;clear x0 x1 x2;cases x
      · obtain⟨cur,hblk⟩:=Own.own_blk hO2;have t0:=Own.own_cell hO2 (i*3) _ (by omega) (List.getElem?_eq_getElem (show i*3<ys.length by omega));have t1:=Own.own_cell hO2 (i*3+1) _ (by omega) (List.getElem?_eq_getElem (show i*3+1<ys.length by omega));have t2:=Own.own_cell hO2 (i*3+2) _ (by omega) (List.getElem?_eq_getElem (show i*3+2<ys.length by omega));have f0:=hblk.frozen (i*3);have f1:=hblk.frozen (i*3+1);have f2:=hblk.frozen (i*3+2);have s1:=hO2.stored (i*3) (.string nm);have s2:=s1.1.stored (i*3+1) (.slice A1 n1 p1);have s3:=s2.1.stored (i*3+2) (.string vl);have HO3:=zh s3.1;rw[zKu ys i _ _ _ (by omega)]at HO3;have HB3:=zh (vS (vS (vS HB2.out hO2 (Nat.le_refl _) s1.2) s1.1 (Nat.le_refl _) s2.2) s2.1 (Nat.le_refl _) s3.2);have HK3:=zh (HKeep.out rfl);clear hb2 hblk s1 s2 s3 hO2;generalize ys[i*3]=o0 at *;generalize ys[i*3+1]=o1 at *;generalize ys[i*3+2]=o2 at *;have hin:i<n:=by omega
        go_wp2_with fail;go_roundw;case rel=>exact⟨i+1,j+1,_,by go_num,by go_num,HO3.out,HK3.out,HB3.out⟩
        case measure=>simp[intOf];omega
      · have HK3:=zh (HSkip.out rfl);clear hb2 hO2;go_wp2_with fail;go_roundw;case rel=>exact⟨i,j+1,ys,rfl,by go_num,HO2.out,HK3.out,HB2.out⟩
        case measure=>simp[intOf];omega
    · obtain rfl:j=n:=by omega
      have hin:i<j:=hij;obtain⟨w2,hcl,ho2,hg2⟩:=zEV (P:=Tryz.prog) (i:=i) HO.out 24 Tryz.underlying24 _ zKg rfl (fun u hu=>by have:=zDU hu;simp[Value.cells]at this;rcases this with rfl | rfl | rfl <;> rfl) hin (cap-i);have HO2:=zh ho2;have HB2:=zh (vS HB.out HO.out (Nat.le_refl _) hg2);have HE:Hid ((fs.filter fun d=>!p d).length=i∧CellsG 3 R (fs.filter fun d=>!p d) (ys.take (i*3))):=by have hk:=hK.out;have hl:=Hlen.out;subst hl;exact hk.done
      have hcn:¬cap=i:=by omega
      clear ho2 hg2;go_wp2_with (simp only[hcl]);go_ret;exact⟨_,_,rfl,by rw[HE.out.1];exact HO2.out,HE.out.2,HB2.out⟩
end Go.Proofs.YtgmaamnofhmecaaGreatDoor
namespace Go.Proofs.YtgmaamnofhmecaaGreatDoor
open Go.RowKit
set_option maxRecDepth 100000 in
theorem zHu (b0 b1 b2 b3 r0:Value) (b:TableD) (row:List ByteArray) (col:ByteArray) (j:Nat) (w:World) (hb:TableR w w.heap.size b0 b1 b2 b3 b) (hr:RowR w w.heap.size r0 row) (hbs:b.small) (hp:wA b.cols col=j) (hj:j<row.length) :
 Calls Tryz.prog 53 #[.agg #[b0,b1,b2,b3],.agg #[r0],.string col] w fun e w'=>e=.returned (.string (row.getD j ByteArray.empty))∧Below w.heap.size w w':=by
 obtain⟨rfl,rfl,⟨A2,n2,p2,rfl,s2,k2⟩,⟨A3,n3,p3,rfl,s3,k3⟩⟩:=hb;obtain⟨R0,rn,rc,rfl,hS,hrc⟩:=hr;have hn2:n2≤1048576:=by rw[←s2.1];exact hbs.2.2.1.1
 have hjn:j<rn:=by rw[←hS.1];exact hj
 have HKP:=zh (fun W (hW:Below w.heap.size w W)=>(zET A2 n2 p2 b.cols col W (s2.later hW) hn2).mono (R':=fun e w'=>e=.returned (.int .i64 (j:Nat))∧Below W.heap.size W w') (fun e w' ⟨h1,h2⟩=>⟨by rw[h1,hp],h2 ▸ Below.refl _ _⟩));obtain⟨rb,ro,rfl,hrb,hcell⟩:=hS.2 (by omega);have hck:=hcell j hjn;have hjz:(j:Int)<(rn:Int):=by omega
 have HB0:=zh ((Below.new w (.cells #[.string b.name,.string b.glob,.slice A2 n2 p2,.slice A3 n3 p3] 29)).later (Below.new _ (.cells #[.slice (some ⟨rb,ro,none⟩) rn rc] 31)));obtain⟨WB,hWB⟩:∃WB,WB=(w.alloc (.cells #[.string b.name,.string b.glob,.slice A2 n2 p2,.slice A3 n3 p3] 29)).alloc (.cells #[.slice (some ⟨rb,ro,none⟩) rn rc] 31):=⟨_,rfl⟩;have HX0:Hid (Blk WB w.heap.size 29 #[.string b.name,.string b.glob,.slice A2 n2 p2,.slice A3 n3 p3]):=by subst hWB;exact uC _ _ _
 have HX1:Hid (Blk WB (w.heap.size+1) 31 #[.slice (some ⟨rb,ro,none⟩) rn rc]):=by subst hWB;exact xB _ _ _
 have HBB:Hid (Below w.heap.size w WB):=by subst hWB;exact HB0.out
 have HRd:Hid (∀W',Below WB.heap.size WB W'→(W'.cell? ⟨w.heap.size,2,none⟩=some (.slice A2 n2 p2)∧W'.cell? ⟨w.heap.size+1,0,none⟩=some (.slice (some ⟨rb,ro,none⟩) rn rc)∧W'.cell? ⟨rb,ro+j,none⟩=some (.string (row.getD j ByteArray.empty)))):=fun W' hW=>⟨((HX0.out.later hW HX0.out.lt).cell 2).trans rfl,((HX1.out.later hW HX1.out.lt).cell 0).trans rfl,((HBB.out.later hW).cell (p:=⟨rb,ro+j,none⟩) hrb).trans hck⟩;clear s2 s3 hS hbs hcell hck;generalize row.getD j ByteArray.empty=s at *;go_enter Tryz.func53,Tryz.ntmps53;go_wp2_with fail;rw[←hWB];clear hWB HB0;obtain⟨x0,x1,x2⟩:=HRd.out _ (Below.refl _ _)
 go_region_held3 (fun W'=>W'.cell? ⟨w.heap.size,2,none⟩=some (.slice A2 n2 p2)∧W'.cell? ⟨w.heap.size+1,0,none⟩=some (.slice (some ⟨rb,ro,none⟩) rn rc)∧W'.cell? ⟨rb,ro+j,none⟩=some (.string s))
  (first | exact HRd.out _ hb1 | exact HRd.out _ (Below.refl WB.heap.size WB).drew)
  (first | (go_at_call 131;refine(HKP.out _ (by exact HBB.out.drew)).mono ?_;rintro e w1 ⟨rfl,hb1'⟩;have hb1:=zD0 hb1';clear hb1'))
 have HB1:=zh (HBB.out.later hb1);clear hb1;go_wp2_with fail;go_ret;exact⟨rfl,HB1.out⟩
end Go.Proofs.YtgmaamnofhmecaaGreatDoor
namespace Go.Proofs.YtgmaamnofhmecaaGreatDoor
open Go.RowKit
set_option linter.unusedVariables false
theorem zCu {l:List ByteArray} {x:ByteArray} (h:x∈l):0≤wA l x:=by
 have:=zFr l x;rw[List.any_eq_true.2 ⟨x,h,by simp⟩]at this;exact of_decide_eq_true this
end Go.Proofs.YtgmaamnofhmecaaGreatDoor
namespace Go.Proofs.YtgmaamnofhmecaaGreatDoor
open Go.RowKit
set_option linter.unusedVariables false
theorem zBl {w:World} {base:Nat} {v:Value} {rs:List (List ByteArray)} (h:RowsI w base v rs):∃A cap,v=.slice A rs.length cap∧rs.length≤cap∧RowsRd w w.heap.size A rs.length rs:=by
 obtain⟨vs,h⟩:=h;obtain⟨A,cap,rfl,hc,_,hA⟩:=Own.own_slice h.row;refine⟨A,cap,rfl,hc,rfl,fun hn=>?_⟩;obtain⟨g,rfl,hg,_⟩:=hA hn;refine⟨g,0,rfl,hg,fun j hj=>?_⟩;have h0:=h.cellAt rfl j 0 hj (by decide);obtain⟨A1,cap1,e1,hc1,hs1⟩:=(h.subs j hj).strs;refine⟨_,?_,A1,_,cap1,e1,hs1,hc1⟩;rw[Nat.zero_add];have e:j*rowK.size+0=j:=by show j*1+0=j;omega
 rw[e]at h0;exact h0
theorem zKU {cols key val:ByteArray} {cs:List ByteArray} {x:List ByteArray} (h:yF cs key val=some x):vC cs x=true:=by
 unfold yF at h;split at h
 · simp at h
 · next hh=>simp only[Option.some.injEq]at h;subst h;simp only[Bool.or_eq_true,not_or,Bool.not_eq_true',Bool.not_eq_false]at hh;exact hh.2
theorem zBZ {f:NodeD→Option (List ByteArray)}:∀{l:List NodeD} {rs:List (List ByteArray)},zE0 f l=some rs→rs.length=l.length∧∀r∈rs,∃d,f d=some r
 | [],rs,h=>by simp only[zE0,Option.some.injEq]at h;subst h;exact⟨rfl,fun r hr=>by simp at hr⟩
 | d::t,rs,h=>by
   unfold zE0 at h;split at h
   · simp at h
   · next x hx =>
     cases hu:zE0 f t with
     | none=>rw[hu]at h;simp at h
     | some ys =>
       rw[hu]at h;simp only[Option.map_some,Option.some.injEq]at h;subst h;obtain⟨h1,h2⟩:=zBZ hu;refine⟨by simp[h1],fun r hr=>?_⟩;rcases List.mem_cons.1 hr with h3 | h3
       · subst h3;exact⟨d,hx⟩
       · exact h2 r h3
theorem zHw {s:ByteArray} (h:yJ s=true):s.size≤1048576:=by
 unfold yJ at h;simp only[Bool.and_eq_true,decide_eq_true_eq]at h;omega
theorem zHT {cs r:List ByteArray} (hc:cs.length≤5) (h:vC cs r=true):wL r∧r.length=cs.length:=by
 unfold vC at h;simp only[Bool.and_eq_true,decide_eq_true_eq,List.all_eq_true]at h;exact⟨⟨by omega,fun s hs=>zHw (h.2.2 s hs)⟩,h.1⟩
theorem zHP {cs:List ByteArray} {ns:List NodeD} (hc:cs.length≤5) (h:(uB cs ns).1=0):(uB cs ns).2.length≤24∧∀r∈(uB cs ns).2,wL r∧r.length=cs.length:=by
 unfold uB at h ⊢;split
 · exact⟨by simp,fun r hr=>by simp at hr⟩
 · next hl =>
   cases hu:zE0 (zAQ cs) ns with
   | none=>exact⟨by simp,fun r hr=>by simp at hr⟩
   | some rs=>obtain⟨h1,h2⟩:=zBZ hu;refine⟨by simp only[];omega,fun r hr=>?_⟩;obtain⟨d,hd⟩:=h2 r hr;exact zHT hc (zKU (cols:=ByteArray.empty) hd)
end Go.Proofs.YtgmaamnofhmecaaGreatDoor
namespace Go.Proofs.YtgmaamnofhmecaaGreatDoor
open Go.RowKit
set_option linter.unusedVariables false
def uF (cols:List ByteArray) (ns:List NodeD) (key:ByteArray):Int × List ByteArray :=
 if atI ns key<0 then (3,[]) else (zAo (yF cols key (ns.getD (atI ns key).toNat default).val),(yF cols key (ns.getD (atI ns key).toNat default).val).getD [])
def zBN (r:Int × List ByteArray) (w:World) (e:Ending) (w':World):Prop:=∃v,e=.returned (.tuple #[.agg #[v],.int .i64 r.1])∧Own.SubO w' w.heap.size v r.2∧Below w.heap.size w w'
set_option maxRecDepth 100000 in
theorem zFZ (A:Option Addr) (n c:Nat) (b0 b1 b2 b3:Value) (fs:List NodeD) (b:TableD) (key:ByteArray) (w:World) (ht:Nodes w w.heap.size A n fs) (hb:TableR w w.heap.size b0 b1 b2 b3 b) (hts:wB fs) (htr:xA fs=true) (hpos:0<b.cols.length) (hn5:b.cols.length≤5) (hk:key.size≤1048576) :
 Calls Tryz.prog 58 #[.agg #[.slice A n c],.agg #[b0,b1,b2,b3],.string key] w (zBN (uF b.cols (yA b.glob fs) key) w):=by
 obtain⟨i0,hi,hz0,hz1,hz2⟩:=info_parts zEu;have HK3:=zh (fun W (hW:Below w.heap.size w W)=>zAL A n c b0 b1 b2 b3 fs b W (ht.later hW) (hb.later hW) hts);have HKU:=zh (fun W (hW:Below w.heap.size w W) val hv=>zBU b0 b1 b2 b3 b key val W (hb.later hW) hpos hn5 hk hv);have HL:=zh (zEh (g:=b.glob) hts);have H2:=zh (zBk (g:=b.glob) (fs:=fs));have HV:Hid (∀d∈yA b.glob fs,d.val.size≤64):=fun d hd=>zBE htr d (zAs hd);have HBD:=zh (zJd (zAR key) (yA b.glob fs) 0);have HR:Hid (uF b.cols (yA b.glob fs) key=if atI (yA b.glob fs) key<0 then (3,[]) else (zAo (yF b.cols key ((yA b.glob fs).getD (atI (yA b.glob fs) key).toNat default).val),(yF b.cols key ((yA b.glob fs).getD (atI (yA b.glob fs) key).toNat default).val).getD [])):=rfl;obtain⟨rfl,rfl,⟨A2,n2,p2,rfl,s2,k2⟩,⟨A3,n3,p3,rfl,s3,k3⟩⟩:=hb;clear s2 s3 ht hts htr hpos hn5 hk;generalize uF b.cols (yA b.glob fs) key=R at *;generalize yA b.glob fs=ns at *;have HAT:Hid (atI ns key=wQ (zAR key) ns 0):=rfl;generalize hup:yF b.cols key=up at *;clear hup;generalize b.name=nm at *;generalize b.glob=gl at *;have HB0:=zh (zL0 w (.cells #[.slice A n c] 26) (.cells #[.string nm,.string gl,.slice A2 n2 p2,.slice A3 n3 p3] 29) (.cells #[.slice none 0 0] 31));have HX1:=zh (wK w (.cells #[.slice A n c] 26) (.cells #[.string nm,.string gl,.slice A2 n2 p2,.slice A3 n3 p3] 29) (.cells #[.slice none 0 0] 31));have HX2:=zh (wJ w (.cells #[.slice A n c] 26) (.cells #[.string nm,.string gl,.slice A2 n2 p2,.slice A3 n3 p3] 29) (.cells #[.slice none 0 0] 31));go_enter Tryz.func58,Tryz.ntmps58;go_wp2_with fail;refine(HK3.out _ HB0.out).mono ?_;rintro e w1 ⟨v,cs,rfl,ho,hc,hb1⟩;obtain⟨A4,cap4,rfl,hcap4,hN4⟩:=uI ho rfl hc hb1;have HN4:=zh hN4;have HLB:Hid (∀g,(Value.slice A4 ns.length cap4).ownBlock=some g→w.heap.size+3≤g):=fun g hg=>by have h1:=(ho.lt g hg).1;simpa using h1
 have HB1:=zh (HB0.out.later hb1);have HY1:=zh (Blk.later HX1.out hb1 (by first | (simp;done) | (simp;omega)));have HY2:=zh (Blk.later HX2.out hb1 (by first | (simp;done) | (simp;omega)));clear hb1 ho hc hN4 HX1 HX2 HK3;go_wp2_with fail;refine(zFv A4 ns.length cap4 ns key _ HN4.out HL.out H2.out).mono ?_;rintro e w2 ⟨rfl,hb2⟩;have HN5:=zh (HN4.out.later hb2);have HB2:=zh (HB1.out.later hb2);have HZ1:=zh (HY1.out.later hb2 HY1.out.lt);have HZ2:=zh (HY2.out.later hb2 HY2.out.lt);clear hb2 HN4 HB1 HY1 HY2;have p1:=HZ1.out.cell;have p2':=HZ2.out.cell;have f2:=HZ2.out.frozen;have z1:=HZ1.out.lt;have z2:=HZ2.out.lt;by_cases hneg:atI ns key<0
 · have HE:Hid (R=(3,[])):=by unfold Hid;rw[HR.out,if_pos hneg]
   clear HR HBD;generalize atI ns key=ix at *;go_wp2_with fail;refine bodyPost_ret (v:=.tuple #[.agg #[.slice none 0 0],.int .i64 3]) (by simp[results,Tryz.results58,go_sem,p2']) rfl ?_;rw[HE.out];exact⟨_,rfl,Own.sub_nil _ _,HB2.out.setCell (by first | (simp;done) | (simp;omega) | (show w.heap.size≤_;omega)) _⟩
 · obtain⟨k,hk⟩:∃k:Nat,atI ns key=(k:Int):=⟨(atI ns key).toNat,by omega⟩;have hkl:k<ns.length:=by have h1:=HBD.out.2;rw[←HAT.out,hk]at h1;omega
   have HE:Hid (R=(zAo (up (ns.getD k default).val),(up (ns.getD k default).val).getD [])):=by unfold Hid;rw[HR.out,if_neg hneg,hk];rfl
   have HKK:=zh (fun W (hW:Below w.heap.size w W)=>HKU.out W hW (ns.getD k default).val (HV.out _ (xD ns k hkl)));obtain⟨bb,o,rfl,hbB,hcc⟩:=HN5.out.2 (by omega);have HBB:=zh (HLB.out bb rfl);obtain⟨c0,c1,c2,k0,k1,k2',hr⟩:=hcc k hkl;obtain⟨e0,_,e2⟩:=hr;subst e0 e2;clear hcc HR HBD HKU HV HAT;rw[hk];rw[hk]at hneg;clear hk;generalize (ns.getD k default).val=vv at *;generalize (ns.getD k default).name=vn at *;generalize hnl:ns.length=nl at *;clear hnl;have y0:=p1 0;have y1:=p1 1;have y2:=p1 2;have y3:=p1 3;have q2:=p2' 0;simp at y0 y1 y2 y3 q2;have HS:Hid (∀W',Below w2.heap.size w2 W'→(W'.cell? ⟨w.heap.size+1,0,none⟩=some (.string nm)∧W'.cell? ⟨w.heap.size+1,1,none⟩=some (.string gl)∧W'.cell? ⟨w.heap.size+1,2,none⟩=some (.slice A2 n2 p2)∧W'.cell? ⟨w.heap.size+1,3,none⟩=some (.slice A3 n3 p3)∧W'.cell? ⟨bb,o+k*3+2,none⟩=some (.string vv))):=fun W' hW=>⟨(hW.cell (p:=⟨w.heap.size+1,0,none⟩) z1).trans y0,(hW.cell (p:=⟨w.heap.size+1,1,none⟩) z1).trans y1,(hW.cell (p:=⟨w.heap.size+1,2,none⟩) z1).trans y2,(hW.cell (p:=⟨w.heap.size+1,3,none⟩) z1).trans y3,(hW.cell (p:=⟨bb,o+k*3+2,none⟩) hbB).trans k2'⟩;go_wp2_with fail
   go_region_held3 (fun w'=>w'.cell? ⟨w.heap.size+1,0,none⟩=some (.string nm)∧w'.cell? ⟨w.heap.size+1,1,none⟩=some (.string gl)∧w'.cell? ⟨w.heap.size+1,2,none⟩=some (.slice A2 n2 p2)∧w'.cell? ⟨w.heap.size+1,3,none⟩=some (.slice A3 n3 p3)∧w'.cell? ⟨bb,o+k*3+2,none⟩=some (.string vv)) (first | exact HS.out _ HBX.out | exact HS.out _ (Below.refl w2.heap.size w2).drew | (have h5:=HS.out _ HBX.out;have h6:=HBB.out;exact⟨(World.cell?_setCell_far _ _ _ _ (by simp)).trans h5.1,(World.cell?_setCell_far _ _ _ _ (by simp)).trans h5.2.1,(World.cell?_setCell_far _ _ _ _ (by simp)).trans h5.2.2.1,(World.cell?_setCell_far _ _ _ _ (by simp)).trans h5.2.2.2.1,(World.cell?_setCell_far _ _ _ _ (by simp;omega)).trans h5.2.2.2.2⟩))
    ((go_at_call 137;refine(HKK.out _ HB2.out.drew).mono ?_;rintro e w4 ⟨v',rfl,hsub,hb4'⟩;obtain⟨AC,cc,rfl,hcc,hmc,hac⟩:=Own.own_slice hsub;have HSUB:=zh hsub;have HBX:=zh (zD0 hb4');have HQ:=zh (Blk.later HZ2.out HBX.out z2);have q0:=Blk.cell HQ.out 0;have qf:=Blk.frozen HQ.out 0;have qz:=HQ.out.lt;simp at q0;clear hsub hb4' hac))
   go_wp2_with fail;refine bodyPost_ret (v:=.tuple #[.agg #[.slice AC _ cc],.int .i64 _]) (by simp[results,Tryz.results58,go_sem,q0];try first | exact rfl | exact⟨rfl,rfl⟩) rfl ?_;rw[HE.out];refine⟨_,rfl,?_,(HB2.out.later HBX.out).setCell (by first | (simp;done) | (simp;omega) | (show w.heap.size≤_;omega)) _⟩;have hS2:=Own.own_base HSUB.out (base:=w.heap.size) (by have:=HB2.out.size;simp;omega);exact World.ownsRow.kept hS2 (row:=some (w.heap.size+1+1)) (Own.grown_set _ _ _ _) (.inr (fun e=>by have h1:=(HSUB.out.lt _ e).1;have h2:=z2;simp at h1;omega))
end Go.Proofs.YtgmaamnofhmecaaGreatDoor
namespace Go.Proofs.YtgmaamnofhmecaaGreatDoor
open Go.RowKit
set_option linter.unusedVariables false
theorem zHe (p:ByteArray→Bool):∀(l:List ByteArray) (k:Nat),0≤uR p l k→∃j,j<l.length∧uR p l k=((k+j:Nat):Int)∧p (l.getD j ByteArray.empty)=true
 | [],_,h=>by simp[uR]at h
 | x::r,k,h=>by
   unfold uR at h ⊢;by_cases hd:p x=true
   · exact⟨0,by simp,by rw[if_pos hd];rfl,by simpa using hd⟩
   · rw[if_neg hd]at h ⊢;obtain⟨j,h1,h2,h3⟩:=zHe p r (k+1) h;exact⟨j+1,by simpa using h1,by rw[h2];congr 1;omega,by simpa using h3⟩
theorem zCY {l:List ByteArray} {x:ByteArray} (h:0≤wA l x):∃j,j<l.length∧wA l x=(j:Int)∧l.getD j ByteArray.empty=x:=by
 obtain⟨j,h1,h2,h3⟩:=zHe _ l 0 h;exact⟨j,h1,by rw[show wA l x=uR (fun y=>decide (y=x)) l 0 from rfl,h2];simp,of_decide_eq_true h3⟩
theorem zKk {b:TableD} (h:zF0 b=true):∀k,k<b.cols.length→xC (b.cols.getD k ByteArray.empty)=true∧wA (b.cols.take k) (b.cols.getD k ByteArray.empty)<0:=by
 unfold zF0 at h;simp only[Bool.and_eq_true]at h;intro k hk;have h2:=(uO (zBc b.cols) b.cols.length 0).1 h.2.2.2.2.2.1 k (by omega) (by omega);unfold zBc at h2;simpa using h2
theorem zHf {α:Type} [Inhabited α] (p:α→Bool):∀(l:List α) (k:Nat),0≤wQ p l k→∃j,j<l.length∧wQ p l k=((k+j:Nat):Int)∧p (l.getD j default)=true
 | [],_,h=>by simp[wQ]at h
 | x::r,k,h=>by
   unfold wQ at h ⊢;by_cases hd:p x=true
   · exact⟨0,by simp,by rw[if_pos hd];rfl,by simpa using hd⟩
   · rw[if_neg hd]at h ⊢;obtain⟨j,h1,h2,h3⟩:=zHf p r (k+1) h;exact⟨j+1,by simpa using h1,by rw[h2];congr 1;omega,by simpa using h3⟩
theorem zAe {α:Type} [Inhabited α] (l:List α) (k:Nat) (h:k<l.length):l.getD k default∈l:=by
 rw[List.getD_eq_getElem?_getD,List.getElem?_eq_getElem h];simp
end Go.Proofs.YtgmaamnofhmecaaGreatDoor
