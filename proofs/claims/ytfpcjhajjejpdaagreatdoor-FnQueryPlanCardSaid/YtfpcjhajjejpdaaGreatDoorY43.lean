import Derived.Test.YtfpcjhajjejpdaaGreatDoorY22
import Derived.Test.YtfpcjhajjejpdaaGreatDoorY21
import Derived.Deep.RegionHeld3
set_option maxHeartbeats 4000000
open Go.Lib renaming hid → zh
namespace Go.Proofs.YtfpcjhajjejpdaaGreatDoor
open Go.RowKit
set_option linter.unusedVariables false
def zHs (g:Nat) (lb:Array Value) (p:List ByteArray→Bool) (rs:List (List ByteArray)) (w:World):Prop :=
 ∀d∈rs,∀c0 W,Below w.heap.size w W→RowR W W.heap.size c0 d→Calls Tryz.prog g (#[.agg #[c0]]++lb) W fun e w'=>e=.returned (.bool (p d))∧Below W.heap.size W w'
theorem zDI (g:Nat) (lb:Array Value) (p:List ByteArray→Bool) (A:Option Addr) (n c:Nat) (fs:List (List ByteArray)) (w:World) (h:RowsRd w w.heap.size A n fs) (hn:n≤1048576)
 (eg:∀args w,(callFunc g args).run Tryz.prog w=.ok (.enter g args) w) (hg:zHs g lb p fs w) :
 Calls Tryz.prog 165 #[.slice A n c,.func (.func g) #[] lb] w fun e w'=>e=.returned (.int .i64 (vJ p fs 0))∧Below w.heap.size w w':=by
 have Hh:=zh h;have Hlen:=zh h.1;have Hg:=zh hg;clear h hg;go_enter Tryz.func165,Tryz.ntmps165;go_wp2_with fail;go_loopw [8] (fun i wr=>∃k:Nat,k≤n∧i=.int .i64 k∧Below w.heap.size w wr∧Hid (vJ p fs 0=vJ p (fs.drop k) k)) (fun i _=>n-(intOf i).toNat);case atStart=>exact⟨0,Nat.zero_le _,rfl,Below.refl _ _,rfl⟩
 case round =>
  obtain⟨k,hk,rfl,hb,hS⟩:=hrel;have HB:=zh hb;clear hb;by_cases hlt:k<n
  · obtain⟨b,o,rfl,hbB,hcell⟩:=(Hh.out.later HB.out).2 (by omega);obtain⟨c0,k0,hr⟩:=hcell k hlt;clear hcell;have hl:k<fs.length:=by rw[Hlen.out];exact hlt
    have HS:=zh (zAt p fs k hl);have HK:=zh (Hg.out (fs.getD k default) (uB fs k hl) c0 wr HB.out hr);obtain⟨A1,n1,p1,rfl,_,_⟩:=hr;clear hl;generalize fs.getD k default=s at *;generalize hx:p s=x at *;have HX:=zh hx;clear hx;go_wp2_with fail;refine HK.out.mono ?_;rintro e w' ⟨rfl,hb1⟩;have HB1:=zh (HB.out.later hb1);clear hb1;cases x
    · go_wp2_with fail;go_roundw;case rel=>exact⟨k+1,by omega,by go_num,HB1.out,by unfold Hid;rw[hS.out,HS.out];rfl⟩
      case measure=>simp[intOf];omega
    · go_wp2_with fail;go_ret;exact⟨zC0 (by rw[hS.out,HS.out];rfl),HB1.out⟩
  · have HE:Hid (vJ p fs 0=-1):=by unfold Hid;rw[hS.out,List.drop_of_length_le (by rw[Hlen.out];omega)];rfl
    go_wp2_with fail;go_ret;exact⟨zC0 HE.out.symm,HB.out⟩
theorem zMG (w:World):(zeroValue 40).run Tryz.prog w=.ok (.agg #[.slice none 0 0]) w:=by kernel_rfl
def zNV (R:List Value→List ByteArray→Prop) (base:Nat) (w:World) (fs:List (List ByteArray)) (e:Ending) (w':World):Prop:=∃v cs,e=.returned v∧w'.ownsRow base 40 1 v fs.length cs∧CellsG 1 R fs cs∧Below base w w'
set_option maxRecDepth 100000 in
theorem zKm (w0:World) (A:Option Addr) (n c:Nat) (fs:List (List ByteArray)) (w:World) (h:RowsRd w0 w0.heap.size A n fs) (hb:Below w0.heap.size w0 w) (hn:n≤1048576) :
 Calls Tryz.prog 108 #[.slice A n c] w (zNV (zY0 w0 w0.heap.size) w.heap.size w fs):=by
 obtain⟨i0,hi,hz0,hz1,hz2⟩:=info_parts yU;have hlen:=h.1;obtain⟨cs,hc,hr⟩:=zJi h;have Hh:=zh ((hr.below hb).more hb.size);have HC:=zh hc;have Hlen:=zh hlen;have H1:=zh (hc.all zMc)
 cases A with
 | none =>
   have hn0:n=0:=by
    rcases Nat.eq_zero_or_pos n with h0 | h0
    · exact h0
    · obtain⟨b,o,e,_⟩:=h.2 h0;cases e
   have hf0:Hid (fs.length=0∧cs=[]):=⟨by rw[hlen,hn0],List.eq_nil_of_length_eq_zero (by rw[hc.len,hlen,hn0])⟩;clear h hc hr hlen hb;subst hn0;have hnil:=fun (W:World)=>Lib.run_eql_slice_nil (P:=Tryz.prog) W 35 40 none 0 c 0 0 Tryz.underlying35;go_enter Tryz.func108,Tryz.ntmps108;go_wp2_with fail;go_ret;refine⟨_,cs,rfl,?_,HC.out,Below.refl _ _⟩;rw[hf0.out.1,hf0.out.2];exact World.ownsRow_nil _ _ _ _
 | some ad =>
   clear h hc hr hlen hb;have hnil:=fun (W:World)=>Lib.run_eql_slice_nil (P:=Tryz.prog) W 35 40 (some ad) n c 0 0 Tryz.underlying35;go_enter Tryz.func108,Tryz.ntmps108;go_wp2_with (at_builtin;refine uI _ rfl (.tmp 5) (.tmp 6) 35 rfl w.heap.size 40 i0 _ 1 24 Tryz.underlying35 hi hz0 hz1 hz2 rfl (by decide) _ 0 [] rfl (World.ownsRow_lit _ _ 0 (Nat.le_refl _) (by omega) rfl) w.heap.size (some ad) n c cs rfl (Hh.out.alloc (Nat.le_refl _) _) H1.out ?c1 ?c2 ?c3 ?_);case c1=>unfold maxLen;omega
   case c2=>omega
   case c3=>simp
   intro v w1 ho hg _;have HB:=zh (xN (w0:=w) (size:=1) (n:=0) (xs:=[]) (Below.new _ _) (World.ownsRow_lit _ _ 0 (Nat.le_refl _) (by omega) rfl) (Nat.le_refl _) hg);have HO:=zh ho;clear ho hg;go_wp2_with fail;go_ret;exact⟨_,cs,rfl,by have hx:=HO.out;simpa [Hlen.out] using hx,HC.out,HB.out⟩
theorem zMa (ys:List Value) (i:Nat) (c0:Value) (h:i<ys.length):ys.set i c0=ys.take (i*1)++[c0]++ys.drop ((i+1)*1):=by
 rw[Nat.mul_one,Nat.mul_one,List.set_eq_take_append_cons_drop,if_pos h];simp
set_option maxRecDepth 100000 in
theorem zEr (g:Nat) (lb:Array Value) (p:List ByteArray→Bool) (v:Value) (fs:List (List ByteArray)) (cs:List Value) (w0 w:World) (R:List Value→List ByteArray→Prop) (hR:∀c d,R c d→zY0 w0 w0.heap.size c d) (h:w.ownsRow w0.heap.size 40 1 v fs.length cs) (hc:CellsG 1 R fs cs) (hb:Below w0.heap.size w0 w) (hn:fs.length≤1048576)
 (eg:∀args w,(callFunc g args).run Tryz.prog w=.ok (.enter g args) w) (hg:zHs g lb p fs w0) :
 Calls Tryz.prog 107 #[v,.func (.func g) #[] lb] w (zNV R w0.heap.size w0 (fs.filter fun d=>!p d)):=by
 obtain⟨A,cap,rfl,hcap,hN⟩:=zAe h rfl (hc.mono hR) hb;obtain⟨_,_,e0,_,hcm,hA⟩:=Own.own_slice h;injection e0 with e1 _ e2;subst e1 e2;have HK:=zh (zDI g lb p A fs.length cap fs w hN hn eg (fun d hd c0 W hW hr=>hg d hd c0 W (hb.trans (hW.mono hb.size)) hr));have HX:=zh (zCH p fs 0);have HO0:=zh h;have HC:=zh hc;have HB0:=zh hb;have Hg:=zh hg;clear h hc hb hg hN;rcases HX.out with ⟨e1,e2⟩ | ⟨k0,hk0,e1,e2⟩
 · rw[e1]at HK;rw[e2];clear e1 e2 HX;go_enter Tryz.func107,Tryz.ntmps107;go_wp2_with fail;refine HK.out.mono ?_;rintro e w1 ⟨rfl,hb1⟩;have HB1:=zh hb1;clear hb1;go_wp2_with fail;go_ret;exact⟨_,cs,rfl,Own.own_later HO0.out HB1.out,HC.out,HB0.out.later HB1.out⟩
 · rw[e1,Nat.zero_add]at HK;obtain⟨g0,rfl,hgl,hgb⟩:=hA (by omega);have HS:=zh (KeptG.start (p:=p) HC.out hk0 e2);have HL:Hid (cs.length=fs.length*1):=HC.out.len;clear e1 e2 HX hA;generalize hnn:fs.length=n at *;have Hlen:=zh hnn;clear hnn;have hne1:((k0:Int)==-1)=false:=beq_eq_false_iff_ne.2 (by omega);go_enter Tryz.func107,Tryz.ntmps107;go_wp2_with fail;refine HK.out.mono ?_;rintro e w1 ⟨rfl,hb1⟩;have HO1:=zh (Own.own_later HO0.out hb1);have HB1:=zh (HB0.out.later hb1);clear hb1;go_wp2_with fail;go_loopw [5,6] (fun i j wr=>∃(ii jj:Nat) (ys:List Value),i=.int .i64 ii∧j=.int .i64 jj∧wr.ownsRow w0.heap.size 40 1 (.slice (some ⟨g0,0,none⟩) n cap) n ys∧Hid (KeptG 1 R p fs cs ii jj ys)∧Below w0.heap.size w0 wr) (fun _ j _=>n-(intOf j).toNat);case atStart=>exact⟨k0,k0+1,cs,rfl,by go_num,HO1.out,HS.out,HB1.out⟩
   case round =>
    obtain⟨i,j,ys,rfl,rfl,ho,hK,hb⟩:=hrel;have HO:=zh ho;have HB:=zh hb;have hij:=hK.out.lt;have hjn:j≤n:=by have:=hK.out.le;rw[Hlen.out]at this;exact this
    have hyl:ys.length=n:=by have h:=ho.1;rw[Nat.mul_one]at h;exact h
    clear ho hb;by_cases hlt:j<n
    · have hl:j<fs.length:=by rw[Hlen.out];exact hlt
      obtain⟨c,_,hRd,hq⟩:=CellsG.at j HC.out hl;obtain⟨c0,rfl,hd⟩:=hR _ _ hRd;have q0:cs[j]?=some c0:=by simpa using hq 0 (by omega)
      clear hq;have x0:=Own.own_cell HO.out j c0 (by omega) (by have h:=hK.out.cell 0;simp at h;exact h.trans q0);have HP:=zh (fun o=>Hg.out (fs.getD j default) (uB fs j hl) c0 (wr.alloc o) (HB.out.later (Below.new _ _)) (hd.later (HB.out.later (Below.new _ _))));have HKeep:=zh (fun hp=>hK.out.keep (by rw[Hlen.out];exact HL.out) hl hp hRd rfl);clear hRd;have HSkip:=zh (fun hp=>hK.out.skip hl hp);clear q0 hl;generalize fs.getD j default=d at *;generalize hx:p d=x at *;clear hx;obtain⟨A1,n1,p1,rfl,_,_⟩:=hd;go_wp2_with fail;refine(HP.out _).mono ?_;rintro e w2 ⟨rfl,hb2⟩;have b0:=zFx hb2 0;simp at b0;have hO2:=Own.own_later (Own.own_later HO.out (Below.new wr _)) hb2;have HB2:=zh (HB.out.later ((Below.new wr _).later hb2));have HO2:=zh hO2;clear x0;cases x
      · obtain⟨cur,hblk⟩:=Own.own_blk hO2;have t0:=Own.own_cell hO2 i _ (by omega) (List.getElem?_eq_getElem (show i<ys.length by omega));have f0:=hblk.frozen i;have s1:=hO2.stored i (.slice A1 n1 p1);have HO3:=zh s1.1;rw[zMa ys i _ (by omega)]at HO3;have HB3:=zh (xN HB2.out hO2 (Nat.le_refl _) s1.2);have HK3:=zh (HKeep.out rfl);clear hb2 hblk s1 hO2;generalize ys[i]=o0 at *;have hin:i<n:=by omega
        go_wp2_with fail;go_roundw;case rel=>exact⟨i+1,j+1,_,by go_num,by go_num,HO3.out,HK3.out,HB3.out⟩
        case measure=>simp[intOf];omega
      · have HK3:=zh (HSkip.out rfl);clear hb2 hO2;go_wp2_with fail;go_roundw;case rel=>exact⟨i,j+1,ys,rfl,by go_num,HO2.out,HK3.out,HB2.out⟩
        case measure=>simp[intOf];omega
    · obtain rfl:j=n:=by omega
      have hin:i<j:=hij;obtain⟨w2,hcl,ho2,hg2⟩:=zCv (P:=Tryz.prog) (i:=i) HO.out 35 Tryz.underlying35 _ zMG rfl (fun u hu=>by have:=zBK hu;simp[Value.cells]at this;subst this;rfl) hin (cap-i);rw[Nat.mul_one]at hcl;have HO2:=zh ho2;have HB2:=zh (xN HB.out HO.out (Nat.le_refl _) hg2);have HE:Hid ((fs.filter fun d=>!p d).length=i∧CellsG 1 R (fs.filter fun d=>!p d) (ys.take (i*1))):=by have hk:=hK.out;have hl:=Hlen.out;subst hl;exact hk.done
      have hcn:¬cap=i:=by omega
      clear ho2 hg2;go_wp2_with (simp only[hcl]);go_ret;exact⟨_,_,rfl,by rw[HE.out.1];exact HO2.out,HE.out.2,HB2.out⟩
end Go.Proofs.YtfpcjhajjejpdaaGreatDoor
namespace Go.Proofs.YtfpcjhajjejpdaaGreatDoor.Stab
set_option linter.unusedVariables false
section
variable {α:Type} {lt:α→α→Bool}
theorem rot_id (d:Nat→α) {a m b:Nat} (h1:a≤m) (h2:m≤b) (h:¬(a<m∧m<b)):rot d a m b=d:=by
 funext t
 unfold rot;by_cases ht:a≤t∧t<b
 · rw[if_pos ht];by_cases h3:t<a+(b-m)
   · rw[if_pos h3];congr 1;omega
   · rw[if_neg h3];congr 1;omega
 · rw[if_neg ht]
theorem one_mrg_nil (d:Nat→α) {a m b:Nat} (h1:a≤m) (h2:m≤b) (h:¬(a<m∧m<b)):seg d a b=mrg lt (seg d a m) (seg d m b):=by
 by_cases h3:a<m
 · obtain rfl:m=b:=by omega
   rw[seg_nil d (Nat.le_refl _),mrg_nil_right]
 · obtain rfl:a=m:=by omega
   rw[seg_nil d (Nat.le_refl _),mrg_nil_left]
theorem zGj (d:Nat→α) {a start m stop b mid:Nat} (q1:a≤start) (q2:start≤m) (q3:m≤stop) (q4:stop≤b) (q5:start≤mid) (q6:mid≤stop) (hs:start+stop=mid+m) :
 seg (rot d start m stop) a start=seg d a start∧seg (rot d start m stop) start mid=seg d m stop∧seg (rot d start m stop) mid stop=seg d start m∧seg (rot d start m stop) stop b=seg d stop b:=by
 have e:=zKw d (a:=start) (m:=m) (b:=stop) (Nat.le_refl start) (Nat.le_refl stop);refine⟨seg_congr fun t h1 h2=>e t (by omega),?_,?_,seg_congr fun t h1 h2=>e t (by omega)⟩
 · rw[show mid=start+(stop-m) by omega];exact zMP d q2 q3
 · rw[show mid=start+(stop-m) by omega];exact zMO d q2 q3
theorem sym_join {d d2 d3:Nat→α} {a start m stop b mid:Nat} (q1:a≤start) (q2:start≤m) (q3:m≤stop) (q4:stop≤b) (q5:start≤mid) (q6:mid≤stop) (hs:start+stop=mid+m)
 (hm:mrg lt (seg d a m) (seg d m b)=mrg lt (seg d a start) (seg d m stop)++mrg lt (seg d start m) (seg d stop b))
 (h2:Same (rot d start m stop) d2 a mid) (e2:seg d2 a mid=mrg lt (seg (rot d start m stop) a start) (seg (rot d start m stop) start mid))
 (h3:Same d2 d3 mid b) (e3:seg d3 mid b=mrg lt (seg d2 mid stop) (seg d2 stop b)) :
 Same d d3 a b∧seg d3 a b=mrg lt (seg d a m) (seg d m b):=by
 obtain⟨p1,p2,p3,p4⟩:=zGj d q1 q2 q3 q4 q5 q6 hs;constructor
 · exact(((zKw d q1 q4).trans (h2.wide (Nat.le_refl _) (by omega))).trans (h3.wide (by omega) (Nat.le_refl _)))
 · rw[hm,seg_split d3 (show a≤mid by omega) (show mid≤b by omega)]
   congr 1
   · rw[←p1,←p2,←e2];exact seg_congr fun t t1 t2=>h3 t (by omega)
   · rw[e3]
     congr 1
     · rw[←p3];exact seg_congr fun t t1 t2=>h2 t (by omega)
     · rw[←p4];exact seg_congr fun t t1 t2=>h2 t (by omega)
theorem rot_srt {d:Nat→α} {a start m stop b mid:Nat} (hX:Srt lt (seg d a m)) (hY:Srt lt (seg d m b)) (q1:a≤start) (q2:start≤m) (q3:m≤stop) (q4:stop≤b) (q5:start≤mid) (q6:mid≤stop) (hs:start+stop=mid+m) :
 Srt lt (seg (rot d start m stop) a start)∧Srt lt (seg (rot d start m stop) start mid)∧Srt lt (seg (rot d start m stop) mid stop)∧Srt lt (seg (rot d start m stop) stop b):=by
 obtain⟨p1,p2,p3,p4⟩:=zGj d q1 q2 q3 q4 q5 q6 hs;rw[p1,p2,p3,p4];exact⟨zEu hX (Nat.le_refl _) q2,zEu hY (Nat.le_refl _) q4,zEu hX q1 (Nat.le_refl _),zEu hY q3 (Nat.le_refl _)⟩
end
end Go.Proofs.YtfpcjhajjejpdaaGreatDoor.Stab
namespace Go.Proofs.YtfpcjhajjejpdaaGreatDoor
open Go.RowKit
set_option linter.unusedVariables false
theorem zNE (d:Nat→uP) {k q:Nat} (hq:q≤k) (h0:0<q):Stab.mv d k q q=d k∧Stab.mv d k q (q-1)=d (q-1):=by
 unfold Stab.mv;exact⟨if_pos rfl,by rw[if_neg (by omega),if_neg (by omega)]⟩
theorem zCn {cmp:List ByteArray→List ByteArray→Int} {lt:List ByteArray→List ByteArray→Bool} (h:∀x y,decide (cmp x y<0)=lt x y) (a b:uP):(cmp a.2 b.2<0→ltI lt a b=true)∧(¬cmp a.2 b.2<0→ltI lt a b=false):=by
 unfold ltI;rw[←h];exact⟨fun h=>decide_eq_true h,fun h=>decide_eq_false h⟩
set_option maxRecDepth 100000 in
theorem zFU (f:Nat) (caps:Array Value) (cmp:List ByteArray→List ByteArray→Int) (lt:List ByteArray→List ByteArray→Bool) (P:List ByteArray→Prop) (w0:World) (hw:Stab.Weak lt) (hlt:∀x y,decide (cmp x y<0)=lt x y) (hc:CmpOk f caps cmp P w0)
 (eg:∀args w,(callFunc f args).run Tryz.prog w=.ok (.enter f args) w) (g n cap a b:Nat) (d:Nat→uP) (w:World) (h:SrtSt w0 P g n cap w d) (hab:a≤b) (hbn:b≤n) (hn:n≤1048576) :
 Calls Tryz.prog 201 #[(.slice (some ⟨g,0,none⟩) n cap),.int .i64 a,.int .i64 b,.func (.func f) #[] caps] w fun e w'=>e=.returned (.tuple #[])∧∃d',SrtSt w0 P g n cap w' d'∧Stab.Same d d' a b∧Stab.seg d' a b=Stab.srt (ltI lt) (Stab.seg d a b):=by
 have HW:=zh (zBX hw);have HLT:=zh hlt;have HC:=zh hc;have HS:=zh h;clear hw hlt hc h;go_enter Tryz.func201,Tryz.ntmps201;go_wp2_with fail;go_loopw [8] (fun i wr=>∃(k:Nat) (dd:Nat→uP),i=.int .i64 k∧a+1≤k∧(k≤b∨a=b)∧Hid (SrtSt w0 P g n cap wr dd)∧Hid (Stab.Same d dd a b)∧Hid (Stab.seg dd a k=Stab.srt (ltI lt) (Stab.seg d a k))∧Hid (∀t,k≤t→dd t=d t)) (fun i _=>b-(intOf i).toNat);case atStart=>exact⟨a+1,d,by go_num,Nat.le_refl _,by omega,HS.out,Stab.Same.refl _ _ _,by unfold Hid;rw[Stab.seg_cons _ (Nat.lt_succ_self a),Stab.seg_nil _ (Nat.le_refl _)];simp[Stab.srt,Stab.mrg_nil_left],fun t _=>rfl⟩
 case round =>
  obtain⟨k,dd,rfl,hak,hkb,hSt,hSame,hseg,hrest⟩:=hrel;by_cases hlt:k<b
  · go_wp2_with fail;go_loopw [9] (fun j wr2=>∃(q:Nat),j=.int .i64 q∧a≤q∧q≤k∧Hid (SrtSt w0 P g n cap wr2 (Stab.mv dd k q))∧Hid (q=k∨ltI lt (dd k) (dd q)=true)) (fun j _=>(intOf j).toNat);case atStart=>exact⟨k,rfl,by omega,Nat.le_refl _,by rw[Stab.mv_self];exact hSt.out,.inl rfl⟩
    case round =>
     obtain⟨q,rfl,haq,hqk,hSt2,hcut⟩:=hrel;have hw2:=hSt2.out.row.lt.2;by_cases hq:a<q
     · obtain⟨p,hp⟩:∃p,q=p+1:=⟨q-1,by omega⟩;have hq1:0<q:=by omega
       obtain⟨e1,e2⟩:=zNE dd hqk hq1;have HSwap:=zh (fun W (hW:Below wr.heap.size wr W)=>(hSt2.out.later hW).swap (show q<n by omega) (show q-1<n by omega));rw[e1,e2,Stab.mv_step dd hq1 hqk]at HSwap;rw[show q-1=p by omega]at e2 HSwap;have x1:=hSt2.out.row.at (show q<n by omega);have x2:=hSt2.out.row.at (show p<n by omega);have HK:=zh (fun W (hW:Below wr.heap.size wr W)=>HC.out.at hSt2.out.good (hSt2.out.below.later hW) (show q<n by omega) (show p<n by omega));have HLt:=zh (zCn HLT.out (dd k) (dd p));rw[e1,e2]at HK;rw[e1]at x1;rw[e2]at x2;obtain⟨A1,l1,c1,f1⟩:=hSt2.out.good.val (show q<n by omega);obtain⟨A2,l2,c2,f2⟩:=hSt2.out.good.val (show p<n by omega);rw[e1]at f1;rw[e2]at f2;rw[f1]at x1 HK HSwap;rw[f2]at x2 HK HSwap;have i2:(q:Int)-1=(p:Int):=by omega
       have hqn:(q:Int)<(n:Int):=by omega
       have hqz:(a:Int)<(q:Int):=by omega
       have hqd:decide (a<q)=true:=by simp;omega
       have hpn:(p:Int)<(n:Int):=by omega
       have hpn':p<n:=by omega
       have HSL:Hid (∀W,Below wr.heap.size wr W→SrtSt w0 P g n cap W (Stab.mv dd k q)):=fun W hW=>hSt2.out.later hW;have HRd:Hid (∀W',Below wr.heap.size wr W'→(W'.cell? ⟨g,q,none⟩=some (.slice A1 l1 c1)∧W'.cell? ⟨g,p,none⟩=some (.slice A2 l2 c2))):=fun W' hW=>⟨cell_later hW x1,cell_later hW x2⟩;have HP:=zh hp;clear e1 e2 f1 f2 hSt2 hp;generalize cmp (dd k).2 (dd p).2=cv at *;go_wp2_with fail;have hw1:IntKind.i64.wrap (p:Int)=(p:Int):=IntWalk.i64_in _ (by omega);have hw2:(0:Int)≤(p:Int):=by omega
       have hw3:((p:Int)).toNat=p:=by omega
       go_region_held3 (fun W'=>W'.cell? ⟨g,q,none⟩=some (.slice A1 l1 c1)∧W'.cell? ⟨g,p,none⟩=some (.slice A2 l2 c2))
        (first | exact HRd.out _ hb1 | exact HRd.out _ (Below.refl wr.heap.size wr).drew)
        (first | (go_at_fn f;refine(HK.out _ (by exact(Below.refl wr.heap.size wr).drew)).mono ?_;rintro e w1 ⟨rfl,hb1'⟩;have hb1:=wD hb1';clear hb1'))
       have HS1:=zh (HSL.out _ hb1);have hw2':=HS1.out.row.lt.2;by_cases hcv:cv<0
       · obtain⟨x1',x2'⟩:=HRd.out _ hb1;have y1:=HS1.out.row.frozen q;have y2:=HS1.out.row.frozen p;have HN:=zh (HSwap.out _ hb1);have HLT2:=zh (HLt.out.1 hcv);have hpq:¬p=q:=by have:=HP.out;omega
         have hqp:¬q=p:=by have:=HP.out;omega
         clear hb1 x1 x2 HRd HSL HSwap HK hcut;go_wp2_with fail
         go_region
         have hSt3:=zh (HN.out.later (Below.refl _ _).drew);obtain⟨W9,hW9⟩:∃W9,W9=((w1.setCell ⟨g,q,none⟩ (.slice A2 l2 c2)).setCell ⟨g,p,none⟩ (.slice A1 l1 c1)).drew:=⟨_,rfl⟩;rw[←hW9]at hSt3 ⊢;clear hW9 x1' x2' y1 y2;go_wp2_with fail;go_roundw;case rel=>exact⟨p,by go_num,by have:=HP.out;omega,by have:=HP.out;omega,hSt3.out,.inr HLT2.out⟩
         case measure=>have:=HP.out;simp[intOf];omega
       · have HLT2:=zh (HLt.out.2 (by omega));have HEnd:=zh (Stab.ins_cut HW.out (d:=dd) (a:=a) (i:=k) (j:=q) (by rw[hseg.out];exact Stab.srt_srt HW.out _) haq hqk (.inr (by rw[show q-1=p by have:=HP.out;omega];exact HLT2.out)) hcut.out);clear hb1 x1 x2 HRd HSL HSwap HK;go_wp2_with fail;go_roundw;case rel=>exact⟨k+1,Stab.mv dd k q,by go_num,by omega,.inl (by omega),HS1.out,hSame.out.trans (Stab.mv_same dd haq hqk hlt),by unfold Hid;rw[HEnd.out,hseg.out,hrest.out k (Nat.le_refl _),Stab.seg_snoc d (show a≤k by omega),Stab.srt_snoc],fun t ht=>by unfold Stab.mv;rw[if_neg (by omega),if_neg (by omega)];exact hrest.out t (by omega)⟩
         case measure=>simp[intOf];omega
     · obtain rfl:q=a:=by omega
       have HEnd:=zh (Stab.ins_cut HW.out (d:=dd) (a:=q) (i:=k) (j:=q) (by rw[hseg.out];exact Stab.srt_srt HW.out _) haq hqk (.inl rfl) hcut.out);have HS1:=zh hSt2.out;go_wp2_with fail
       go_quiet (fail)
       go_wp2_with fail;go_roundw;case rel=>exact⟨k+1,Stab.mv dd k q,by go_num,by omega,.inl (by omega),HS1.out.later (wA (Below.refl _ _) _),hSame.out.trans (Stab.mv_same dd haq hqk hlt),by unfold Hid;rw[HEnd.out,hseg.out,hrest.out k (Nat.le_refl _),Stab.seg_snoc d (show q≤k by omega),Stab.srt_snoc],fun t ht=>by unfold Stab.mv;rw[if_neg (by omega),if_neg (by omega)];exact hrest.out t (by omega)⟩
       case measure=>simp[intOf];omega
  · have hkk:k=b∨a=b:=by omega
    have HE:Hid (Stab.seg dd a b=Stab.srt (ltI lt) (Stab.seg d a b)):=by
     unfold Hid;rcases hkk with e | e
     · rw[←e];exact hseg.out
     · subst e;rw[Stab.seg_nil dd (Nat.le_refl _),Stab.seg_nil d (Nat.le_refl _)];rfl
    clear hkk;go_wp2_with fail
    go_end0
    exact⟨rfl,dd,hSt.out,hSame.out,HE.out⟩
set_option maxRecDepth 100000 in
theorem zAQ (f:Nat) (caps:Array Value) (P:List ByteArray→Prop) (w0:World) (g n cap a b m:Nat) (d:Nat→uP) (w:World) (h:SrtSt w0 P g n cap w d) (h1:a+m≤b) (h2:b+m≤n) (hn:n≤1048576) :
 Calls Tryz.prog 249 #[(.slice (some ⟨g,0,none⟩) n cap),.int .i64 a,.int .i64 b,.int .i64 m,.func (.func f) #[] caps] w fun e w'=>e=.returned (.tuple #[])∧SrtSt w0 P g n cap w' (Stab.swr d a b m):=by
 have HS:=zh h;clear h;go_enter Tryz.func249,Tryz.ntmps249;go_wp2_with fail;go_loopw [10] (fun i wr=>∃(k:Nat),k≤m∧i=.int .i64 k∧Hid (SrtSt w0 P g n cap wr (Stab.swr d a b k))) (fun i _=>m-(intOf i).toNat);case atStart=>exact⟨0,Nat.zero_le _,rfl,by rw[Stab.swr_zero];exact HS.out⟩
 case round =>
  obtain⟨k,hk,rfl,hSt⟩:=hrel;by_cases hlt:k<m
  · obtain⟨p,hp⟩:∃p,p=a+k:=⟨_,rfl⟩;obtain⟨r,hr⟩:∃r,r=b+k:=⟨_,rfl⟩;have HN:=zh (hSt.out.swap (show p<n by omega) (show r<n by omega));have x1:=hSt.out.row.at (show p<n by omega);have x2:=hSt.out.row.at (show r<n by omega);obtain⟨A1,l1,c1,f1⟩:=hSt.out.good.val (show p<n by omega);obtain⟨A2,l2,c2,f2⟩:=hSt.out.good.val (show r<n by omega);rw[f1]at x1 HN;rw[f2]at x2 HN;rw[hp,hr,Stab.swr_step d h1 hlt,←hp,←hr]at HN;have ip:(a:Int)+(k:Int)=(p:Int):=by omega
    have ir:(b:Int)+(k:Int)=(r:Int):=by omega
    have hpn:(p:Int)<(n:Int):=by omega
    have hrn:(r:Int)<(n:Int):=by omega
    have y1:=hSt.out.row.frozen p;have y2:=hSt.out.row.frozen r;have z2:=hSt.out.row.lt.2;have hpr:¬p=r:=by omega
    have hrp:¬r=p:=by omega
    have hkz:(k:Int)<(m:Int):=by omega
    clear f1 f2 hp hr;go_wp2_with fail;have hw1:IntKind.i64.wrap (p:Int)=(p:Int):=IntWalk.i64_in _ (by omega);have hw2:(0:Int)≤(p:Int):=by omega
    have hw3:((p:Int)).toNat=p:=by omega
    have hw4:IntKind.i64.wrap (r:Int)=(r:Int):=IntWalk.i64_in _ (by omega);have hw5:(0:Int)≤(r:Int):=by omega
    have hw6:((r:Int)).toNat=r:=by omega
    go_region
    have hSt3:=zh (HN.out.later (Below.refl _ _).drew);obtain⟨W9,hW9⟩:∃W9,W9=((wr.setCell ⟨g,p,none⟩ (.slice A2 l2 c2)).setCell ⟨g,r,none⟩ (.slice A1 l1 c1)).drew:=⟨_,rfl⟩;rw[←hW9]at hSt3 ⊢;clear hW9 x1 x2 y1 y2;go_wp2_with fail;go_roundw;case rel=>exact⟨k+1,by omega,by go_num,hSt3.out⟩
    case measure=>simp[intOf];omega
  · obtain rfl:k=m:=by omega
    go_wp2_with fail
    go_end0
    exact⟨rfl,hSt.out⟩
set_option maxRecDepth 100000 in
theorem zJm (f:Nat) (caps:Array Value) (P:List ByteArray→Prop) (w0:World) (g n cap a m b:Nat) (d:Nat→uP) (w:World) (h:SrtSt w0 P g n cap w d) (h1:a<m) (h2:m<b) (h3:b≤n) (hn:n≤1048576) :
 Calls Tryz.prog 228 #[(.slice (some ⟨g,0,none⟩) n cap),.int .i64 a,.int .i64 m,.int .i64 b,.func (.func f) #[] caps] w fun e w'=>e=.returned (.tuple #[])∧SrtSt w0 P g n cap w' (Stab.rot d a m b):=by
 have HS:=zh h;clear h;have e1:(m:Int)-(a:Int)=((m-a:Nat):Int):=by omega
 have e2:(b:Int)-(m:Int)=((b-m:Nat):Int):=by omega
 have HE1:=zh e1;have HE2:=zh e2;clear e1 e2;go_enter Tryz.func228,Tryz.ntmps228;go_wp2_with fail;go_loopw [10,11] (fun i j wr=>∃(x y:Nat) (dd:Nat→uP),i=.int .i64 x∧j=.int .i64 y∧0<x∧0<y∧x≤m-a∧y≤b-m∧Hid (SrtSt w0 P g n cap wr dd)∧Hid (Stab.rot dd (m-x) m (m+y)=Stab.rot d a m b)) (fun i j _=>(intOf i).toNat+(intOf j).toNat);case atStart=>exact⟨m-a,b-m,d,by rw[HE1.out],by rw[HE2.out],by omega,by omega,Nat.le_refl _,Nat.le_refl _,HS.out,by unfold Hid;rw[show m-(m-a)=a by omega,show m+(b-m)=b by omega]⟩
 case round =>
  obtain⟨x,y,dd,rfl,rfl,hx,hy,hxm,hyb,hSt,hR⟩:=hrel;have hm1:(m:Int)-(x:Int)=((m-x:Nat):Int):=by omega
  have HM1:=zh hm1;clear hm1;by_cases hxy:x=y
  · subst hxy;have HK:=zh (zAQ f caps P w0 g n cap (m-x) m x dd wr hSt.out (by omega) (by omega) hn);have HE:Hid (Stab.swr dd (m-x) m x=Stab.rot d a m b):=by unfold Hid;rw[Stab.rot_same dd (show x≤m by omega),hR.out]
    rw[HE.out]at HK;go_wp2_with fail;rw[HM1.out];refine HK.out.mono ?_;rintro e w1 ⟨rfl,hS1⟩;have HS1:=zh hS1;clear hS1;go_wp2_with fail
    go_end0
    exact⟨rfl,HS1.out⟩
  · by_cases hlt:y<x
    · have HK:=zh (zAQ f caps P w0 g n cap (m-x) m y dd wr hSt.out (by omega) (by omega) hn);have HE:Hid (Stab.rot (Stab.swr dd (m-x) m y) (m-(x-y)) m (m+y)=Stab.rot d a m b):=by unfold Hid;rw[Stab.rot_more dd hlt (show x≤m by omega),hR.out]
      have i1:((x:Int)==(y:Int))=false:=by rw[beq_eq_false_iff_ne];omega
      have i2:((x:Int) != (y:Int))=true:=by rw[bne,i1];rfl
      have i3:(y:Int)<(x:Int):=by omega
      have i4:(x==y)=false:=by rw[beq_eq_false_iff_ne];omega
      go_wp2_with fail;rw[HM1.out];refine HK.out.mono ?_;rintro e w1 ⟨rfl,hS1⟩;have HS1:=zh hS1;clear hS1;go_wp2_with fail;go_roundw;case rel=>exact⟨x-y,y,_,by go_num,rfl,by omega,hy,by omega,hyb,HS1.out,HE.out⟩
      case measure=>simp[intOf];omega
    · have hm2:(m:Int)+(y:Int)-(x:Int)=((m+y-x:Nat):Int):=by omega
      have HM2:=zh hm2;clear hm2;have HK:=zh (zAQ f caps P w0 g n cap (m-x) (m+y-x) x dd wr hSt.out (by omega) (by omega) hn);have HE:Hid (Stab.rot (Stab.swr dd (m-x) (m+y-x) x) (m-x) m (m+(y-x))=Stab.rot d a m b):=by unfold Hid;rw[Stab.rot_less dd (show x<y by omega) (show x≤m by omega),hR.out]
      have i1:((x:Int)==(y:Int))=false:=by rw[beq_eq_false_iff_ne];omega
      have i2:((x:Int) != (y:Int))=true:=by rw[bne,i1];rfl
      have i4:(x==y)=false:=by rw[beq_eq_false_iff_ne];omega
      go_wp2_with fail;rw[HM1.out,HM2.out];refine HK.out.mono ?_;rintro e w1 ⟨rfl,hS1⟩;have HS1:=zh hS1;clear hS1;go_wp2_with fail;go_roundw;case rel=>exact⟨x,y-x,_,rfl,by go_num,hx,by omega,hxm,by omega,HS1.out,HE.out⟩
      case measure=>simp[intOf];omega
end Go.Proofs.YtfpcjhajjejpdaaGreatDoor
