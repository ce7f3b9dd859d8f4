import Derived.Test.YtfpcjhajjejpdaaGreatDoorZ16
import Derived.Test.YtfpcjhajjejpdaaGreatDoorZ07
import Derived.Test.YtfpcjhajjejpdaaGreatDoorZ12
import Derived.Test.YtfpcjhajjejpdaaGreatDoorZ15
import Derived.Deep.RegionHeld3
set_option maxHeartbeats 4000000
open Go.Lib renaming hid → zh
namespace Go.Proofs.YtfpcjhajjejpdaaGreatDoor
open Go.RowKit
theorem zAT {zero:Array Value} {m:Nat} {u:Value} (h:u∈(Builtin.zeroCells zero m).toList):u∈zero.toList:=by
 unfold Builtin.zeroCells at h;simp only[Array.toList_map,List.mem_map]at h;obtain⟨i,hi,rfl⟩:=h;have hi':i<m*zero.size:=by simpa using hi
 have hz:0<zero.size:=by
  rcases Nat.eq_zero_or_pos zero.size with e | e
  · rw[e]at hi';omega
  · exact e
 rw[getElem!_pos zero _ (Nat.mod_lt _ hz)];simp
theorem zKh (w:World):(zeroValue 83).run Tryz.prog w=.ok (.agg #[.string .empty,.slice none 0 0,.string .empty]) w:=by kernel_rfl
def zMd (R:List Value→NodeD→Prop) (base:Nat) (w:World) (fs:List NodeD) (e:Ending) (w':World):Prop:=∃v cs,e=.returned v∧w'.ownsRow base 83 3 v fs.length cs∧CellsG 3 R fs cs∧Below base w w'
set_option maxRecDepth 100000 in
theorem zIG (w0:World) (A:Option Addr) (n c:Nat) (fs:List NodeD) (w:World) (h:Nodes w0 w0.heap.size A n fs) (hb:Below w0.heap.size w0 w) (hn:n≤1048576) :
 Calls Tryz.prog 135 #[.slice A n c] w (zMd (zDS w0 w0.heap.size) w.heap.size w fs):=by
 obtain⟨i0,hi,hz0,hz1,hz2⟩:=info_parts zAv;have hlen:=h.1;obtain⟨cs,hc,hr⟩:=zDb h;have Hh:=zh ((hr.below hb).more hb.size);have HC:=zh hc;have Hlen:=zh hlen;have H1:=zh (hc.all zFg)
 cases A with
 | none =>
   have hn0:n=0:=by
    rcases Nat.eq_zero_or_pos n with h0 | h0
    · exact h0
    · obtain⟨b,o,e,_⟩:=h.2 h0;cases e
   have hf0:Hid (fs.length=0∧cs=[]):=⟨by rw[hlen,hn0],List.eq_nil_of_length_eq_zero (by rw[hc.len,hlen,hn0])⟩;clear h hc hr hlen hb;subst hn0;have hnil:=fun (W:World)=>Lib.run_eql_slice_nil (P:=Tryz.prog) W 24 83 none 0 c 0 0 Tryz.underlying24;go_enter Tryz.func135,Tryz.ntmps135;go_wp2_with fail;go_ret;refine⟨_,cs,rfl,?_,HC.out,Below.refl _ _⟩;rw[hf0.out.1,hf0.out.2];exact World.ownsRow_nil _ _ _ _
 | some ad =>
   clear h hc hr hlen hb;have hnil:=fun (W:World)=>Lib.run_eql_slice_nil (P:=Tryz.prog) W 24 83 (some ad) n c 0 0 Tryz.underlying24;go_enter Tryz.func135,Tryz.ntmps135;go_wp2_with (at_builtin;refine vG _ rfl (.tmp 5) (.tmp 6) 24 rfl w.heap.size 83 i0 _ 3 56 Tryz.underlying24 hi hz0 hz1 hz2 rfl (by decide) _ 0 [] rfl (World.ownsRow_lit _ _ 0 (Nat.le_refl _) (by omega) rfl) w.heap.size (some ad) n c cs rfl (Hh.out.alloc (Nat.le_refl _) _) H1.out ?c1 ?c2 ?c3 ?_);case c1=>unfold maxLen;omega
   case c2=>omega
   case c3=>simp
   intro v w1 ho hg _;have HB:=zh (xK (w0:=w) (size:=3) (n:=0) (xs:=[]) (Below.new _ _) (World.ownsRow_lit _ _ 0 (Nat.le_refl _) (by omega) rfl) (Nat.le_refl _) hg);have HO:=zh ho;clear ho hg;go_wp2_with fail;go_ret;exact⟨_,cs,rfl,by have hx:=HO.out;simpa [Hlen.out] using hx,HC.out,HB.out⟩
set_option maxRecDepth 100000 in
theorem zDy (g:Nat) (lb:Array Value) (p:NodeD→Bool) (v:Value) (fs:List NodeD) (cs:List Value) (w0 w:World) (R:List Value→NodeD→Prop) (hR:∀c d,R c d→zDS w0 w0.heap.size c d) (h:w.ownsRow w0.heap.size 83 3 v fs.length cs) (hc:CellsG 3 R fs cs) (hb:Below w0.heap.size w0 w) (hn:fs.length≤1048576)
 (eg:∀args w,(callFunc g args).run Tryz.prog w=.ok (.enter g args) w) (hg:zEC g lb p fs w0) :
 Calls Tryz.prog 66 #[v,.func (.func g) #[] lb] w (zMd R w0.heap.size w0 (fs.filter fun d=>!p d)):=by
 obtain⟨A,cap,rfl,hcap,hN⟩:=wK h rfl (cellsN_iff.2 (hc.mono hR)) hb;obtain⟨_,_,e0,_,hcm,hA⟩:=Own.own_slice h;injection e0 with e1 _ e2;subst e1 e2;have HK:=zh (zCq g lb p A fs.length cap fs w hN hn eg (fun d hd c0 c1 c2 W hW hr=>hg d hd c0 c1 c2 W (hb.trans (hW.mono hb.size)) hr));have HX:=zh (zBJ p fs 0);have HO0:=zh h;have HC:=zh hc;have HB0:=zh hb;have Hg:=zh hg;clear h hc hb hg hN;rcases HX.out with ⟨e1,e2⟩ | ⟨k0,hk0,e1,e2⟩
 · rw[e1]at HK;rw[e2];clear e1 e2 HX;go_enter Tryz.func66,Tryz.ntmps66;go_wp2_with fail;refine HK.out.mono ?_;rintro e w1 ⟨rfl,hb1⟩;have HB1:=zh hb1;clear hb1;go_wp2_with fail;go_ret;exact⟨_,cs,rfl,Own.own_later HO0.out HB1.out,HC.out,HB0.out.later HB1.out⟩
 · rw[e1,Nat.zero_add]at HK;obtain⟨g0,rfl,hgl,hgb⟩:=hA (by omega);have HS:=zh (KeptG.start (p:=p) HC.out hk0 e2);have HL:Hid (cs.length=fs.length*3):=HC.out.len;clear e1 e2 HX hA;generalize hnn:fs.length=n at *;have Hlen:=zh hnn;clear hnn;have hne1:((k0:Int)==-1)=false:=beq_eq_false_iff_ne.2 (by omega);go_enter Tryz.func66,Tryz.ntmps66;go_wp2_with fail;refine HK.out.mono ?_;rintro e w1 ⟨rfl,hb1⟩;have HO1:=zh (Own.own_later HO0.out hb1);have HB1:=zh (HB0.out.later hb1);clear hb1;go_wp2_with fail;go_loopw [5,6] (fun i j wr=>∃(ii jj:Nat) (ys:List Value),i=.int .i64 ii∧j=.int .i64 jj∧wr.ownsRow w0.heap.size 83 3 (.slice (some ⟨g0,0,none⟩) n cap) n ys∧Hid (KeptG 3 R p fs cs ii jj ys)∧Below w0.heap.size w0 wr) (fun _ j _=>n-(intOf j).toNat);case atStart=>exact⟨k0,k0+1,cs,rfl,by go_num,HO1.out,HS.out,HB1.out⟩
   case round =>
    obtain⟨i,j,ys,rfl,rfl,ho,hK,hb⟩:=hrel;have HO:=zh ho;have HB:=zh hb;have hij:=hK.out.lt;have hjn:j≤n:=by have:=hK.out.le;rw[Hlen.out]at this;exact this
    have hyl:ys.length=n*3:=ho.1;clear ho hb;by_cases hlt:j<n
    · have hl:j<fs.length:=by rw[Hlen.out];exact hlt
      obtain⟨c,_,hRd,hq⟩:=CellsG.at j HC.out hl;obtain⟨c0,c1,c2,rfl,hd⟩:=hR _ _ hRd;have q0:cs[j*3]?=some c0:=hq 0 (by omega);have q1:cs[j*3+1]?=some c1:=hq 1 (by omega);have q2:cs[j*3+2]?=some c2:=hq 2 (by omega);clear hq;have x0:=Own.own_cell HO.out (j*3) c0 (by omega) ((hK.out.cell 0).trans q0);have x1:=Own.own_cell HO.out (j*3+1) c1 (by omega) ((hK.out.cell 1).trans q1);have x2:=Own.own_cell HO.out (j*3+2) c2 (by omega) ((hK.out.cell 2).trans q2);have HP:=zh (fun o=>Hg.out (fs.getD j default) (wB fs j hl) c0 c1 c2 (wr.alloc o) (HB.out.later (Below.new _ _)) (hd.later (HB.out.later (Below.new _ _))));have HKeep:=zh (fun hp=>hK.out.keep (by rw[Hlen.out];exact HL.out) hl hp hRd rfl);clear hRd;have HSkip:=zh (fun hp=>hK.out.skip hl hp);clear q0 q1 q2 hl;generalize fs.getD j default=d at *;generalize hx:p d=x at *;clear hx;obtain⟨rfl,⟨A1,n1,p1,rfl,_,_⟩,rfl⟩:=hd;generalize d.name=nm at *;generalize d.val=vl at *;go_wp2_with fail;refine(HP.out _).mono ?_;rintro e w2 ⟨rfl,hb2⟩;have b0:=zEs hb2 0;have b1:=zEs hb2 1;have b2:=zEs hb2 2;simp at b0 b1 b2;have hO2:=Own.own_later (Own.own_later HO.out (Below.new wr _)) hb2;have HB2:=zh (HB.out.later ((Below.new wr _).later hb2));have HO2:=zh hO2;clear x0 x1 x2;cases x
      · obtain⟨cur,hblk⟩:=Own.own_blk hO2;have t0:=Own.own_cell hO2 (i*3) _ (by omega) (List.getElem?_eq_getElem (show i*3<ys.length by omega));have t1:=Own.own_cell hO2 (i*3+1) _ (by omega) (List.getElem?_eq_getElem (show i*3+1<ys.length by omega));have t2:=Own.own_cell hO2 (i*3+2) _ (by omega) (List.getElem?_eq_getElem (show i*3+2<ys.length by omega));have f0:=hblk.frozen (i*3);have f1:=hblk.frozen (i*3+1);have f2:=hblk.frozen (i*3+2);have s1:=hO2.stored (i*3) (.string nm);have s2:=s1.1.stored (i*3+1) (.slice A1 n1 p1);have s3:=s2.1.stored (i*3+2) (.string vl);have HO3:=zh s3.1;rw[zKq ys i _ _ _ (by omega)]at HO3;have HB3:=zh (xK (xK (xK HB2.out hO2 (Nat.le_refl _) s1.2) s1.1 (Nat.le_refl _) s2.2) s2.1 (Nat.le_refl _) s3.2);have HK3:=zh (HKeep.out rfl);clear hb2 hblk s1 s2 s3 hO2;generalize ys[i*3]=o0 at *;generalize ys[i*3+1]=o1 at *;generalize ys[i*3+2]=o2 at *;have hin:i<n:=by omega
        go_wp2_with fail;go_roundw;case rel=>exact⟨i+1,j+1,_,by go_num,by go_num,HO3.out,HK3.out,HB3.out⟩
        case measure=>simp[intOf];omega
      · have HK3:=zh (HSkip.out rfl);clear hb2 hO2;go_wp2_with fail;go_roundw;case rel=>exact⟨i,j+1,ys,rfl,by go_num,HO2.out,HK3.out,HB2.out⟩
        case measure=>simp[intOf];omega
    · obtain rfl:j=n:=by omega
      have hin:i<j:=hij;obtain⟨w2,hcl,ho2,hg2⟩:=zBx (P:=Tryz.prog) (i:=i) HO.out 24 Tryz.underlying24 _ zKh rfl (fun u hu=>by have:=zAT hu;simp[Value.cells]at this;rcases this with rfl | rfl | rfl <;> rfl) hin (cap-i);have HO2:=zh ho2;have HB2:=zh (xK HB.out HO.out (Nat.le_refl _) hg2);have HE:Hid ((fs.filter fun d=>!p d).length=i∧CellsG 3 R (fs.filter fun d=>!p d) (ys.take (i*3))):=by have hk:=hK.out;have hl:=Hlen.out;subst hl;exact hk.done
      have hcn:¬cap=i:=by omega
      clear ho2 hg2;go_wp2_with (simp only[hcl]);go_ret;exact⟨_,_,rfl,by rw[HE.out.1];exact HO2.out,HE.out.2,HB2.out⟩
end Go.Proofs.YtfpcjhajjejpdaaGreatDoor
namespace Go.Proofs.YtfpcjhajjejpdaaGreatDoor
open Go.RowKit
theorem zEv:∀(l:List UInt8),Op.bytesLess l l=false
 | []=>rfl
 | a::x=>by simp[Op.bytesLess,zEv x]
theorem zEt:∀(a b c:List UInt8),Op.bytesLess a b=true→Op.bytesLess b c=true→Op.bytesLess a c=true
 | _,[],_,h,_=>by simp[Op.bytesLess]at h
 | _,_::_,[],_,h=>by simp[Op.bytesLess]at h
 | [],_::_,_::_,_,_=>rfl
 | a::x,b::y,c::z,h1,h2=>by
   simp only[Op.bytesLess,Bool.or_eq_true,Bool.and_eq_true,decide_eq_true_iff,beq_iff_eq]at h1 h2 ⊢;rcases h1 with h1 | ⟨rfl,h1⟩
   · rcases h2 with h2 | ⟨rfl,h2⟩
     · exact .inl (UInt8.lt_trans h1 h2)
     · exact .inl h1
   · rcases h2 with h2 | ⟨rfl,h2⟩
     · exact .inl h2
     · exact .inr ⟨rfl,zEt x y z h1 h2⟩
theorem zEu:∀(a b:List UInt8),Op.bytesLess a b=false→Op.bytesLess b a=false→a=b
 | [],[],_,_=>rfl
 | [],_::_,h,_=>by simp[Op.bytesLess]at h
 | _::_,[],_,h=>by simp[Op.bytesLess]at h
 | a::x,b::y,h1,h2=>by simp only[Op.bytesLess,Bool.or_eq_false_iff,Bool.and_eq_false_iff,decide_eq_false_iff_not,beq_eq_false_iff_ne]at h1 h2;have e:a=b:=UInt8.le_antisymm (UInt8.not_lt.1 h2.1) (UInt8.not_lt.1 h1.1);subst e;have r1:=h1.2.resolve_left (fun h=>h rfl);have r2:=h2.2.resolve_left (fun h=>h rfl);rw[zEu x y r1 r2]
theorem zJU {a b:ByteArray} (ha:uD a=true) (hb:uD b=true) (h:yQ a.data.toList=yQ b.data.toList):a=b:=by
 unfold uD at ha hb;rw[decide_eq_true_iff]at ha hb;apply uR;rw[yD,yD,←ha,←hb,h]
theorem zAL (a b:ByteArray):decide (uU a b<0)=yB a b:=by
 unfold uU yB;cases ha:uD a <;> cases hb:uD b
 · simp only[Bool.false_and,if_neg (show ¬(false=true) by decide),bne_self_eq_false];unfold zAS;cases h:Op.bytesLess a.toList b.toList
   · by_cases he:a=b <;> simp[he]
   · simp
 · simp
 · simp
 · simp only[Bool.and_self,if_pos];unfold zEp;by_cases h1:yQ a.data.toList<yQ b.data.toList
   · simp[h1]
   · by_cases h2:yQ b.data.toList<yQ a.data.toList <;> simp[h1,h2]
theorem vR (a b:ByteArray):uU a b=0↔a=b:=by
 constructor
 · intro h;unfold uU at h;cases ha:uD a <;> cases hb:uD b
   · rw[ha,hb]at h;simp at h;unfold zAS at h;split at h
     · omega
     · split at h
       · assumption
       · omega
   · rw[ha,hb]at h;simp at h
   · rw[ha,hb]at h;simp at h
   · rw[ha,hb]at h;simp at h;unfold zEp at h;split at h
     · omega
     · split at h
       · omega
       · exact zJU ha hb (by omega)
 · rintro rfl;unfold uU;cases ha:uD a
   · simp;unfold zAS;rw[zEv];simp
   · simp;unfold zEp;simp
theorem zAb (a:ByteArray):yB a a=false:=by
 rw[←zAL,(vR a a).2 rfl];rfl
theorem wT (a b c:ByteArray) (h1:yB a b=true) (h2:yB b c=true):yB a c=true:=by
 unfold yB at h1 h2 ⊢;cases ha:uD a <;> cases hb:uD b <;> cases hc:uD c <;> rw[ha,hb]at h1 <;> rw[hb,hc]at h2 <;> simp at h1 h2 ⊢
 · exact zEt _ _ _ h1 h2
 · omega
theorem zAN (a b:ByteArray) (h:a≠b):yB a b=true∨yB b a=true:=by
 rcases Int.lt_trichotomy (uU a b) 0 with h1 | h1 | h1
 · exact .inl (by rw[←zAL];simpa using h1)
 · exact absurd ((vR a b).1 h1) h
 · right;unfold uU at h1;unfold yB;cases ha:uD a <;> cases hb:uD b <;> rw[ha,hb]at h1 <;> simp at h1 ⊢
   · unfold zAS at h1;cases hx:Op.bytesLess b.toList a.toList
     · cases hy:Op.bytesLess a.toList b.toList
       · exact absurd (uR (zEu _ _ hy hx)) h
       · rw[hy]at h1;simp at h1
     · rfl
   · unfold zEp at h1;split at h1
     · omega
     · split at h1
       · assumption
       · omega
theorem zJd:∀(a b:List ByteArray),decide (uX a b<0)=vI a b
 | [],[]=>rfl
 | [],_::_=>rfl
 | _::_,[]=>rfl
 | x::r,y::s=>by
   unfold uX vI;by_cases h:x=y
   · subst h;rw[if_pos ((vR x x).2 rfl),if_pos rfl,zJd r s]
   · rw[if_neg (fun e=>h ((vR x y).1 e)),if_neg h,zAL]
theorem zFv:∀(a b:List ByteArray),uX a b=0↔a=b
 | [],[]=>by simp[uX]
 | [],_::_=>by simp[uX]
 | _::_,[]=>by simp[uX]
 | x::r,y::s=>by
   unfold uX;by_cases h:x=y
   · subst h;rw[if_pos ((vR x x).2 rfl),zFv r s];simp
   · have ht:¬uU x y=0:=fun e=>h ((vR x y).1 e);rw[if_neg ht];simp[h];exact ht
theorem zAy (a b:ByteArray):zAS a b=0↔a=b:=by
 unfold zAS;constructor
 · intro h;split at h
   · omega
   · split at h
     · assumption
     · omega
 · rintro rfl;rw[zEv];simp
theorem zLt (a b:ByteArray):decide (zAS a b<0)=Op.bytesLess a.toList b.toList:=by
 unfold zAS;cases h:Op.bytesLess a.toList b.toList
 · by_cases he:a=b <;> simp[he]
 · simp
theorem zFw (n n':ByteArray) (s s':List ByteArray):decide (zAo n s n' s'<0)=zBe n s n' s':=by
 unfold zAo zBe orI;by_cases h:n=n'
 · subst h;rw[if_pos ((zAy n n).2 rfl),if_pos rfl,zJd]
 · rw[if_neg (fun e=>h ((zAy n n').1 e)),if_neg h,zLt]
theorem zHk (n n':ByteArray) (s s':List ByteArray):zAo n s n' s'=0↔n=n'∧s=s':=by
 unfold zAo orI;by_cases h:n=n'
 · subst h;rw[if_pos ((zAy n n).2 rfl),zFv];simp
 · rw[if_neg (fun e=>h ((zAy n n').1 e)),zAy];simp[h]
theorem zDc:∀(a b c:List ByteArray),vI a b=true→vI b c=true→vI a c=true
 | _,[],[],_,h=>by simp[vI]at h
 | [],[],_::_,h,_=>by simp[vI]at h
 | _::_,[],_::_,h,_=>by simp[vI]at h
 | _,_::_,[],_,h=>by simp[vI]at h
 | [],_::_,_::_,_,_=>rfl
 | x::r,y::s,z::t,h1,h2=>by
   unfold vI at h1 h2 ⊢;by_cases e1:x=y
   · subst e1;rw[if_pos rfl]at h1;by_cases e2:x=z
     · subst e2;rw[if_pos rfl]at h2 ⊢;exact zDc r s t h1 h2
     · rw[if_neg e2]at h2 ⊢;exact h2
   · rw[if_neg e1]at h1;by_cases e2:y=z
     · subst e2;rw[if_neg e1];exact h1
     · rw[if_neg e2]at h2;have h3:=wT x y z h1 h2;by_cases e3:x=z
       · subst e3;rw[zAb]at h3;cases h3
       · rw[if_neg e3];exact h3
theorem zGA (n1 n2 n3:ByteArray) (s1 s2 s3:List ByteArray) (h1:zBe n1 s1 n2 s2=true) (h2:zBe n2 s2 n3 s3=true):zBe n1 s1 n3 s3=true:=by
 unfold zBe at h1 h2 ⊢;by_cases e1:n1=n2
 · subst e1;rw[if_pos rfl]at h1;by_cases e2:n1=n3
   · subst e2;rw[if_pos rfl]at h2 ⊢;exact zDc _ _ _ h1 h2
   · rw[if_neg e2]at h2 ⊢;exact h2
 · rw[if_neg e1]at h1;by_cases e2:n2=n3
   · subst e2;rw[if_neg e1];exact h1
   · rw[if_neg e2]at h2;have h3:=zEt _ _ _ h1 h2;by_cases e3:n1=n3
     · subst e3;rw[zEv]at h3;cases h3
     · rw[if_neg e3];exact h3
end Go.Proofs.YtfpcjhajjejpdaaGreatDoor
namespace Go.Proofs.YtfpcjhajjejpdaaGreatDoor
open Go.RowKit
theorem zEH (a b:ByteArray) (w:World) (htab:zU0 w) (ha:a.size≤1048576) (hb:b.size≤1048576) :
 Calls Tryz.prog 54 #[.string a,.string b] w fun e w'=>e=.returned (.bool (yB a b))∧Below w.heap.size w w':=by
 have HK:=zh (zBj a b w htab ha hb);have hR:=zAL a b;generalize yB a b=R at *;generalize uU a b=y at *;have HR:=zh hR;clear hR;go_enter Tryz.func54,Tryz.ntmps54;go_wp2_with fail;refine HK.out.mono ?_;rintro e w1 ⟨rfl,hb1⟩;have HB:=zh hb1;clear hb1;go_wp2_with fail;go_ret;exact⟨zA0 HR.out,HB.out⟩
theorem zCt (cell:ByteArray) (c0 c1 c2:Value) (d:CondD) (w:World) (htab:zU0 w) (h:CondR w w.heap.size c0 c1 c2 d) (hs:d.small) (hc:cell.size≤1048576) :
 Calls Tryz.prog 13 #[.string cell,.agg #[c0,c1,c2]] w fun e w'=>e=.returned (.bool (uP cell d))∧Below w.heap.size w w':=by
 obtain⟨rfl,rfl,rfl⟩:=h;have HR:Hid (uP cell d=(if d.op=1 then decide (cell=d.val) else if d.op=4 then decide (cell≠d.val) else if d.op=2 then yB cell d.val else if d.op=3 then yB d.val cell else false)):=rfl;have HK1:=zh (fun o=>zEH cell d.val (w.alloc o) (yF htab (Below.new _ _)) hc hs.2);have HK2:=zh (fun o=>zEH d.val cell (w.alloc o) (yF htab (Below.new _ _)) hs.2 hc);have HB0:=zh (fun o=>Below.new w o);clear hs hc htab;generalize uP cell d=R at *;generalize d.op=op at *;generalize d.col=cl at *;generalize d.val=vl at *;go_enter Tryz.func13,Tryz.ntmps13;by_cases h1:op=1
 · have HE:Hid (R=decide (cell=vl)):=by unfold Hid;rw[HR.out,if_pos h1]
   subst h1;clear HR;by_cases he:cell=vl
   · have HE2:Hid (R=true):=by unfold Hid;rw[HE.out,decide_eq_true he]
     subst he;go_wp2_with fail;go_ret;exact⟨zA0 HE2.out.symm,HB0.out _⟩
   · have HE2:Hid (R=false):=by unfold Hid;rw[HE.out,decide_eq_false he]
     have hbe:=uC he;clear he;go_wp2_with fail;go_ret;exact⟨zA0 HE2.out.symm,HB0.out _⟩
 by_cases h4:op=4
 · have HE:Hid (R=decide (cell≠vl)):=by unfold Hid;rw[HR.out,if_neg h1,if_pos h4]
   subst h4;clear HR h1;by_cases he:cell=vl
   · have HE2:Hid (R=false):=by unfold Hid;rw[HE.out,decide_eq_false (fun h=>h he)]
     subst he;go_wp2_with fail;go_ret;exact⟨zA0 HE2.out.symm,HB0.out _⟩
   · have HE2:Hid (R=true):=by unfold Hid;rw[HE.out,decide_eq_true he]
     have hbe:=uC he;have hbn:=zP0 he;clear he;go_wp2_with fail;go_ret;exact⟨zA0 HE2.out.symm,HB0.out _⟩
 by_cases h2:op=2
 · have HE:Hid (R=yB cell vl):=by unfold Hid;rw[HR.out,if_neg h1,if_neg h4,if_pos h2]
   subst h2;clear HR h1 h4;generalize yB cell vl=x at *;go_wp2_with fail;refine(HK1.out _).mono ?_;rintro e w1 ⟨rfl,hb1⟩;have HB:=zh ((HB0.out _).later hb1);clear hb1;go_wp2_with fail;go_ret;exact⟨zA0 HE.out.symm,HB.out⟩
 by_cases h3:op=3
 · have HE:Hid (R=yB vl cell):=by unfold Hid;rw[HR.out,if_neg h1,if_neg h4,if_neg h2,if_pos h3]
   subst h3;clear HR h1 h4 h2;generalize yB vl cell=x at *;go_wp2_with fail;refine(HK2.out _).mono ?_;rintro e w1 ⟨rfl,hb1⟩;have HB:=zh ((HB0.out _).later hb1);clear hb1;go_wp2_with fail;go_ret;exact⟨zA0 HE.out.symm,HB.out⟩
 · have HE:Hid (R=false):=by unfold Hid;rw[HR.out,if_neg h1,if_neg h4,if_neg h2,if_neg h3]
   have i1:=wS h1;have i2:=wS h2;have i3:=wS h3;have i4:=wS h4;clear HR h1 h2 h3 h4;go_wp2_with fail;go_ret;exact⟨zA0 HE.out.symm,HB0.out _⟩
set_option maxRecDepth 100000 in
theorem zCk (b0 b1 b2 b3 r0:Value) (b:TableD) (row:List ByteArray) (col:ByteArray) (j:Nat) (w:World) (hb:TableR w w.heap.size b0 b1 b2 b3 b) (hr:RowR w w.heap.size r0 row) (hbs:b.small) (hp:xA b.cols col=j) (hj:j<row.length) :
 Calls Tryz.prog 85 #[.agg #[b0,b1,b2,b3],.agg #[r0],.string col] w fun e w'=>e=.returned (.string (row.getD j ByteArray.empty))∧Below w.heap.size w w':=by
 obtain⟨rfl,rfl,⟨A2,n2,p2,rfl,s2,k2⟩,⟨A3,n3,p3,rfl,s3,k3⟩⟩:=hb;obtain⟨R0,rn,rc,rfl,hS,hrc⟩:=hr;have hn2:n2≤1048576:=by rw[←s2.1];exact hbs.2.2.1.1
 have hjn:j<rn:=by rw[←hS.1];exact hj
 have HKP:=zh (fun W (hW:Below w.heap.size w W)=>(zEE A2 n2 p2 b.cols col W (s2.later hW) hn2).mono (R':=fun e w'=>e=.returned (.int .i64 (j:Nat))∧Below W.heap.size W w') (fun e w' ⟨h1,h2⟩=>⟨by rw[h1,hp],h2 ▸ Below.refl _ _⟩));obtain⟨rb,ro,rfl,hrb,hcell⟩:=hS.2 (by omega);have hck:=hcell j hjn;have hjz:(j:Int)<(rn:Int):=by omega
 have HB0:=zh ((Below.new w (.cells #[.string b.name,.string b.glob,.slice A2 n2 p2,.slice A3 n3 p3] 29)).later (Below.new _ (.cells #[.slice (some ⟨rb,ro,none⟩) rn rc] 40)));obtain⟨WB,hWB⟩:∃WB,WB=(w.alloc (.cells #[.string b.name,.string b.glob,.slice A2 n2 p2,.slice A3 n3 p3] 29)).alloc (.cells #[.slice (some ⟨rb,ro,none⟩) rn rc] 40):=⟨_,rfl⟩;have HX0:Hid (Blk WB w.heap.size 29 #[.string b.name,.string b.glob,.slice A2 n2 p2,.slice A3 n3 p3]):=by subst hWB;exact zC0 _ _ _
 have HX1:Hid (Blk WB (w.heap.size+1) 40 #[.slice (some ⟨rb,ro,none⟩) rn rc]):=by subst hWB;exact uB _ _ _
 have HBB:Hid (Below w.heap.size w WB):=by subst hWB;exact HB0.out
 have HRd:Hid (∀W',Below WB.heap.size WB W'→(W'.cell? ⟨w.heap.size,2,none⟩=some (.slice A2 n2 p2)∧W'.cell? ⟨w.heap.size+1,0,none⟩=some (.slice (some ⟨rb,ro,none⟩) rn rc)∧W'.cell? ⟨rb,ro+j,none⟩=some (.string (row.getD j ByteArray.empty)))):=fun W' hW=>⟨((HX0.out.later hW HX0.out.lt).cell 2).trans rfl,((HX1.out.later hW HX1.out.lt).cell 0).trans rfl,((HBB.out.later hW).cell (p:=⟨rb,ro+j,none⟩) hrb).trans hck⟩;clear s2 s3 hS hbs hcell hck;generalize row.getD j ByteArray.empty=s at *;go_enter Tryz.func85,Tryz.ntmps85;go_wp2_with fail;rw[←hWB];clear hWB HB0;obtain⟨x0,x1,x2⟩:=HRd.out _ (Below.refl _ _)
 go_region_held3 (fun W'=>W'.cell? ⟨w.heap.size,2,none⟩=some (.slice A2 n2 p2)∧W'.cell? ⟨w.heap.size+1,0,none⟩=some (.slice (some ⟨rb,ro,none⟩) rn rc)∧W'.cell? ⟨rb,ro+j,none⟩=some (.string s))
  (first | exact HRd.out _ hb1 | exact HRd.out _ (Below.refl WB.heap.size WB).drew)
  (first | (go_at_call 127;refine(HKP.out _ (by exact HBB.out.drew)).mono ?_;rintro e w1 ⟨rfl,hb1'⟩;have hb1:=xC hb1';clear hb1'))
 have HB1:=zh (HBB.out.later hb1);clear hb1;go_wp2_with fail;go_ret;exact⟨rfl,HB1.out⟩
theorem zFE (b0 b1 b2 b3 c0 c1 c2 c3 c4 c5:Value) (b:TableD) (d:QueryD) (w:World) (hb:TableR w w.heap.size b0 b1 b2 b3 b) (h:QueryR w w.heap.size c0 c1 c2 c3 c4 c5 d) :
 Calls Tryz.prog 115 #[.agg #[b0,b1,b2,b3],.agg #[c0,c1,c2,c3,c4,c5]] w fun e w'=>e=.returned (if d.cols.length=0 then b2 else c1)∧Below w.heap.size w w':=by
 obtain⟨rfl,rfl,⟨A2,n2,p2,rfl,s2,k2⟩,⟨A3,n3,p3,rfl,s3,k3⟩⟩:=hb;obtain⟨rfl,⟨B1,m1,q1,rfl,t1,l1⟩,⟨B2,m2,q2,rfl,t2,l2⟩,rfl,rfl,rfl⟩:=h;have HB0:=zh (fun o o'=>(Below.new w o).later (Below.new _ o'));rw[t1.1];clear s2 s3 t1 t2;go_enter Tryz.func115,Tryz.ntmps115;by_cases h0:m1=0
 · subst h0;go_wp2_with fail;go_ret;exact⟨rfl,HB0.out _ _⟩
 · have i1:((m1:Int)==0)=false:=by rw[beq_eq_false_iff_ne];omega
   have i2:(m1==0)=false:=by rw[beq_eq_false_iff_ne];omega
   rw[if_neg h0];clear h0;go_wp2_with fail;go_ret;exact⟨rfl,HB0.out _ _⟩
end Go.Proofs.YtfpcjhajjejpdaaGreatDoor
