import Derived.Test.YtfpcjhajjejpdaaGreatDoorY41
import Derived.Test.YtfpcjhajjejpdaaGreatDoorY18
import Derived.Test.YtfpcjhajjejpdaaGreatDoorY05
import Derived.Test.YtfpcjhajjejpdaaGreatDoorY25
import Derived.Test.YtfpcjhajjejpdaaGreatDoorY12
import Derived.Test.YtfpcjhajjejpdaaGreatDoorY19
import Derived.Test.YtfpcjhajjejpdaaGreatDoorY23
import Derived.Deep.RegionHeld3
set_option maxHeartbeats 4000000
open Go.Lib renaming hid → zh
namespace Go.Proofs.YtfpcjhajjejpdaaGreatDoor
open Go.RowKit
set_option maxRecDepth 100000 in
theorem zFW (pk:Nat) (c0 c1 c2 kv cv:Value) (pv:ByteArray) (d:NodeD) (w:World) (hk:Blk w pk 49 #[kv,cv,.string pv]) (h:NodeR w w.heap.size c0 c1 c2 d) (h2:d.subs.length=2) :
 Calls Tryz.prog 67 #[.agg #[c0,c1,c2],.pointer (some ⟨pk,0,none⟩)] w fun e w'=>e=.returned (.bool (!vM pv d))∧Below w.heap.size w w':=by
 obtain⟨rfl,⟨A1,n1,cap1,rfl,hs1,hcap1⟩,rfl⟩:=h;obtain rfl:n1=2:=by rw[←hs1.1];exact h2
 obtain⟨sb,so,rfl,hsb,hsc⟩:=hs1.2 (by omega);have hck:=hsc 1 (by omega);have x2:=hk.cell 2;simp at x2;have hlt:=hk.lt;have HP:Hid (vM pv d=decide (d.subs.getD 1 ByteArray.empty=pv)):=rfl;clear hsc hs1 h2 hk;have HB0:=zh (fun o=>Below.new w o);generalize vM pv d=R at *;generalize d.subs.getD 1 ByteArray.empty=s at *;generalize d.name=nm at *;generalize d.val=vl at *;go_enter Tryz.func67,Tryz.ntmps67;by_cases he:s=pv
 · have HE:Hid ((!R)=false):=by unfold Hid;rw[HP.out,decide_eq_true he];rfl
   subst he;go_wp2_with fail
   go_quiet (fail)
   go_wp2_with fail;go_ret;exact⟨zA0 HE.out.symm,wA (HB0.out _) _⟩
 · have HE:Hid ((!R)=true):=by unfold Hid;rw[HP.out,decide_eq_false he];rfl
   have hbe:=zB0 he;have hbn:=yJ he;clear he;go_wp2_with fail
   go_quiet (fail)
   go_wp2_with fail;go_ret;exact⟨zA0 HE.out.symm,wA (HB0.out _) _⟩
theorem zML (a b c:ByteArray) (ss:List ByteArray) (h:ss.length=4):yD [a,b,c] ss=(decide (ss.getD 0 ByteArray.empty=a)&&(decide (ss.getD 1 ByteArray.empty=b)&&decide (ss.getD 2 ByteArray.empty=c))):=by
 match ss,h with
 | [s0,s1,s2,s3],_=>simp[yD,eq_comm]
set_option maxRecDepth 100000 in
theorem zFc (A:Option Addr) (n c:Nat) (b0 b1 b2 b3:Value) (fs:List NodeD) (b:TableD) (col val:ByteArray) (w:World) (h:Nodes w w.heap.size A n fs) (hb:TableR w w.heap.size b0 b1 b2 b3 b) (hs:vC fs) :
 Calls Tryz.prog 69 #[.agg #[.slice A n c],.agg #[b0,b1,b2,b3],.string col,.string val] w fun e w'=>∃v,e=.returned v∧Own.SubO w' w.heap.size v (yL b.glob col val fs)∧Below w.heap.size w w':=by
 obtain⟨i0,hi,hz0,hz1,hz2⟩:=info_parts zAO;obtain⟨rfl,rfl,⟨A2,n2,p2,rfl,s2,k2⟩,⟨A3,n3,p3,rfl,s3,k3⟩⟩:=hb;have Hh:=zh h;have Hlen:=zh h.1;have hn:n≤1048576:=by rw[←h.1];exact hs.1
 clear h hs s2 s3;have HP:Hid (∀d,zAz b.glob col val d=(decide (d.name=b.glob)&&(decide (d.subs.length=4)&&(decide (d.subs.getD 0 ByteArray.empty=⟨#[105]⟩)&&(decide (d.subs.getD 1 ByteArray.empty=col)&&decide (d.subs.getD 2 ByteArray.empty=val)))))):=fun _=>rfl;have HRN:Hid (yL b.glob col val fs=(fs.filter (zAz b.glob col val)).map wI):=rfl;generalize yL b.glob col val fs=OUT at *;generalize zAz b.glob col val=P at *;generalize b.glob=gl at *;generalize b.name=nm at *;go_enter Tryz.func69,Tryz.ntmps69;go_wp2_with fail;go_loopw [9,20] (fun v i wr=>∃(k:Nat),k≤n∧i=.int .i64 k∧wr.ownsRow (w.heap.size+1+1) 9 1 v (((fs.take k).filter P).map wI).length ((((fs.take k).filter P).map wI).map Value.string)∧Below (w.heap.size+1+1) ((w.alloc (.cells #[.slice A n c] 26)).alloc (.cells #[.string nm,.string gl,.slice A2 n2 p2,.slice A3 n3 p3] 29)) wr∧Blk wr (w.heap.size+1+1+1) 9 #[.string ⟨#[105]⟩,.string col,.string val]∧v.ownBlock≠some (w.heap.size+1+1+1)) (fun _ i _=>n-(intOf i).toNat);case atStart=>refine⟨0,Nat.zero_le _,rfl,?_,((Below.refl _ _).alloc (by first | exact Nat.le_refl _ | (simp;done) | (simp;omega)) _).alloc (by first | exact Nat.le_refl _ | (simp;done) | (simp;omega)) _,xC (by simp),by simp[Value.ownBlock]⟩;exact Own.own_later (by simpa using World.ownsRow_lit (e:=9) (size:=1) ((w.alloc (.cells #[.slice A n c] 26)).alloc (.cells #[.string nm,.string gl,.slice A2 n2 p2,.slice A3 n3 p3] 29)) #[] 0 (Nat.le_refl _) (by omega) rfl) (Below.new _ _)
 case round =>
  obtain⟨k,hk,rfl,hown,hb,hu,hne⟩:=hrel;have px:=(Blk.later (yC w _ _) hb (by omega)).cell;have py:=(Blk.later (vB w _ _) hb (by omega)).cell;have hz3:w.heap.size+1<wr.heap.size:=by have:=hu.lt;omega
  have HBk:=zh hb;have HU:=zh hu;have HBw:=zh (((Below.new w _).later (Below.new _ _)).trans (hb.mono (by omega)));have hml:=zAC P fs k;have hml2:(((fs.take k).filter P).map wI).length≤k:=by rw[List.length_map];exact hml
  have HO:=zh hown;clear hb hown hml hu;by_cases hlt:k<n
  · obtain⟨bb,o,rfl,hbB,hc'⟩:=(Hh.out.later HBw.out).2 (by omega);obtain⟨d0,d1,d2,j0,j1,j2,hrl⟩:=hc' k hlt;clear hc';have hl1:k<fs.length:=by rw[Hlen.out];exact hlt
    have HTS:=zh (zR0 P fs k hl1);have HPd:=zh (HP.out (fs.getD k default));have HK:Hid (wI (fs.getD k default)=(fs.getD k default).subs.getD 3 ByteArray.empty):=rfl;clear hl1;generalize fs.getD k default=d at *;obtain⟨e0,⟨A1,n1,cap1,e1,hs1,hcap1⟩,e2⟩:=hrl;subst e0 e1 e2;have HL1:=zh hs1.1;have HS1:=zh hs1;clear hs1;generalize hY:((fs.take k).filter P).map wI=ys at *;have HY:=zh hY;clear hY;by_cases hnm:d.name=gl
    case neg =>
     have HE:Hid (((fs.take (k+1)).filter P).map wI=ys):=by unfold Hid;rw[HTS.out,if_neg (by rw[HPd.out];rw[decide_eq_false hnm];simp),HY.out]
     have hbe:=zB0 hnm;clear hnm;go_wp2_with fail;go_roundw;case rel=>refine⟨k+1,by omega,by go_num,?_,HBk.out.alloc (by omega) _,HU.out.alloc _,hne⟩;rw[HE.out];exact Own.own_later HO.out (Below.new _ _)
     case measure=>simp[intOf];omega
    subst hnm;by_cases hn4:n1=4
    case neg =>
     have HE:Hid (((fs.take (k+1)).filter P).map wI=ys):=by unfold Hid;rw[HTS.out,if_neg (by rw[HPd.out];rw[HL1.out,decide_eq_false hn4];simp),HY.out]
     have hb3:((n1:Int)==4)=false:=by rw[beq_eq_false_iff_ne];omega
     have hb4:(n1==4)=false:=by rw[beq_eq_false_iff_ne];omega
     clear hn4;go_wp2_with fail;go_roundw;case rel=>refine⟨k+1,by omega,by go_num,?_,HBk.out.alloc (by omega) _,HU.out.alloc _,hne⟩;rw[HE.out];exact Own.own_later HO.out (Below.new _ _)
     case measure=>simp[intOf];omega
    subst hn4;have HKb:=zh (fun o=>zJY A1 (some ⟨w.heap.size+1+1+1,0,none⟩) 4 cap1 3 3 d.subs [⟨#[105]⟩,col,val] (wr.alloc o) (HS1.out.later (Below.new _ _)) (Blk.strs (ss:=[⟨#[105]⟩,col,val]) (HU.out.alloc o)) (by omega) hcap1);have HX:=zh (zML ⟨#[105]⟩ col val d.subs HL1.out);have HPx:Hid (P d=yD [⟨#[105]⟩,col,val] d.subs):=by unfold Hid;rw[HPd.out,HX.out,HL1.out];simp
    obtain⟨sb,so,e1,hsb,hsc⟩:=HS1.out.2 (by omega);subst e1;have h3:=hsc 3 (by omega);clear hsc HX HPd;generalize yD [⟨#[105]⟩,col,val] d.subs=x at *;generalize d.subs.getD 3 ByteArray.empty=t3 at *;go_wp2_with fail;refine(HKb.out _).mono ?_;rintro e w1 ⟨rfl,q,rfl⟩;cases x
    · have HE:Hid (((fs.take (k+1)).filter P).map wI=ys):=by unfold Hid;rw[HTS.out,if_neg (by rw[HPx.out];simp),HY.out]
      go_wp2_with fail;go_roundw;case rel=>refine⟨k+1,by omega,by go_num,?_,wA (HBk.out.alloc (by omega) _) _,HU.out.alloc _,hne⟩;rw[HE.out];exact Own.own_later HO.out (wA (Below.new _ _) q)
      case measure=>simp[intOf];omega
    have HE:Hid (((fs.take (k+1)).filter P).map wI=ys++[t3]):=by unfold Hid;rw[HTS.out,if_pos HPx.out,List.map_append,HY.out,List.map_singleton,HK.out]
    have hrow:Hid (∀o o',(((wr.alloc o).drewN q).alloc o').ownsRow (w.heap.size+1+1) 9 1 u9 ys.length (ys.map Value.string)):=fun o o'=>Own.own_later (w:=(wr.alloc o).drewN q) (Own.own_later HO.out (wA (Below.new _ _) q)) (Below.new _ _);go_wp2_with (at_builtin;refine wpList_append_own_at _ rfl (.tmp 41) (.tmp 46) 27 rfl (w.heap.size+1+1) 9 i0 _ 1 16 Tryz.underlying27 hi hz0 hz1 hz2 rfl (by decide) _ ys.length _ rfl (hrow.out _ _) ⟨_,0,none⟩ 1 1 [.string t3] rfl rfl ?c1 ?c2 ?c3 ?c4 ?c5 ?_);all_goals try (first | exact wC _ #[.string t3] _ _ (by simp) | (simp[Value.oneCell'];done) | (unfold maxLen;omega) | omega | (show w.heap.size+1+1≤((wr.alloc _).alloc _).heap.size;have hx:=HU.out.lt;simp;omega))
    intro v1 w2 hown1 hg1 _ hob;have HO3:Hid (w2.ownsRow (w.heap.size+1+1) 9 1 v1 (((fs.take (k+1)).filter P).map wI).length ((((fs.take (k+1)).filter P).map wI).map Value.string)):=by unfold Hid;rw[HE.out,List.length_append,List.length_singleton,List.map_append];exact hown1
    have HB3:=zh (((wA (HBk.out.alloc (by omega) _) q).alloc (by first | omega | (simp;omega)) _).grown hg1 (by first | omega | (simp;omega)) (fun g hg'=>((hrow.out (.cells #[] 0) (.cells #[] 0)).lt g hg').1));have HU3:=zh (Blk.grown ((show Blk ((wr.alloc _).drewN q) _ _ _ from HU.out.alloc _).alloc _) hg1 (fun e=>hne e.symm))
    have hne1:v1.ownBlock≠some (w.heap.size+1+1+1):=by
     rcases hob with hob | hob
     · rw[hob];exact hne
     · have hx:=HU.out.lt;rw[hob];intro e;injection e with e;simp at e;omega
    clear hown1 hg1 hob;go_wp2_with fail;go_roundw;case rel=>exact⟨k+1,by omega,by go_num,HO3.out,HB3.out,HU3.out,hne1⟩
    case measure=>simp[intOf];omega
  · obtain rfl:k=n:=by omega
    have HE:Hid (((fs.take k).filter P).map wI=OUT):=by unfold Hid;rw[HRN.out,List.take_of_length_le (by rw[Hlen.out];omega)]
    go_wp2_with fail;go_ret;have h1:=HO.out;rw[HE.out]at h1;exact⟨_,rfl,Own.own_base h1 (by omega),HBw.out⟩
end Go.Proofs.YtfpcjhajjejpdaaGreatDoor
namespace Go.Proofs.YtfpcjhajjejpdaaGreatDoor
open Go.RowKit
set_option maxRecDepth 100000 in
theorem zHt (A:Option Addr) (n c:Nat) (b0 b1 b2 b3 c0 c1 c2 c3 c4 c5 e0 e1 e2:Value) (fs:List NodeD) (b:TableD) (d:QueryD) (p:PlanD) (w:World) (htab:uX w) (ht:Nodes w w.heap.size A n fs) (hb:TableR w w.heap.size b0 b1 b2 b3 b) (h:QueryR w w.heap.size c0 c1 c2 c3 c4 c5 d) (hp:PlanR w w.heap.size e0 e1 e2 p) (hts:vC fs) (hbs:b.small) (hs:d.small) :
 Calls Tryz.prog 21 #[.agg #[.slice A n c],.agg #[b0,b1,b2,b3],.agg #[c0,c1,c2,c3,c4,c5],.agg #[e0,e1,e2]] w fun e w'=>e=.returned (.tuple #[.int .i64 (zAk fs b d p).1,.int .i64 (zAk fs b d p).2])∧Below w.heap.size w w':=by
 have HK1:=zh (fun W (hW:Below w.heap.size w W)=>zCM A n c fs W (ht.later hW) (vF htab hW) hts);have HK2:=zh (fun W (hW:Below w.heap.size w W)=>zBD b0 b1 b2 b3 c0 c1 c2 c3 c4 c5 e0 e1 e2 b d p W (hb.later hW) (h.later hW) (hp.later hW) hbs hs);have HK3:=zh (fun W (hW:Below w.heap.size w W)=>zBo A n c b0 b1 b2 b3 fs b W (ht.later hW) (hb.later hW) hts);have HK4:=zh (fun W (hW:Below w.heap.size w W)=>zFc A n c b0 b1 b2 b3 fs b p.col p.val W (ht.later hW) (hb.later hW) hts);have HL:=zh (zCS (g:=b.glob) hts);have HL2:=zh (zFb (g:=b.glob) (c:=p.col) (v:=p.val) hts);have HKey:=zh (fun h:uA fs=true=>zNN (g:=b.glob) (key:=p.val) h);have H2:=zh (zAZ (g:=b.glob) (fs:=fs));generalize hxt:uA fs=xt at *;have HR:Hid (zAk fs b d p=if (xt&&vI b d p)=true then (if p.kind=1 then (if 0≤atI (vA b.glob fs) p.val then 1 else 0) else if p.kind=2 then ((yL b.glob p.col p.val fs).length:Int) else ((vA b.glob fs).length:Int),0) else (0,1)):=by unfold Hid;rw[←hxt];rfl
 clear hxt htab;obtain⟨rfl,rfl,⟨A2,n2,p2,rfl,s2,k2⟩,⟨A3,n3,p3,rfl,s3,k3⟩⟩:=hb;obtain⟨rfl,⟨B1,m1,q1,rfl,t1,l1⟩,⟨B2,m2,q2,rfl,t2,l2⟩,rfl,rfl,rfl⟩:=h;obtain⟨rfl,rfl,rfl⟩:=hp;clear s2 s3 t1 t2 ht hts hbs hs;generalize zAk fs b d p=R at *;generalize vI b d p=xf at *;generalize b.name=nm at *;generalize b.glob=gl at *;generalize d.table=tb at *;generalize d.order=od at *;generalize d.desc=ds at *;generalize d.limit=lm at *;generalize p.kind=kd at *;generalize p.col=pc at *;generalize p.val=pv at *;have HB0:=zh (uR w (.cells #[.slice A n c] 26) (.cells #[.string nm,.string gl,.slice A2 n2 p2,.slice A3 n3 p3] 29) (.cells #[.string tb,.slice B1 m1 q1,.slice B2 m2 q2,.string od,.bool ds,.int .i64 lm] 32) (.cells #[.int .i64 kd,.string pc,.string pv] 49));have HX0:=zh (wZ w (.cells #[.slice A n c] 26) (.cells #[.string nm,.string gl,.slice A2 n2 p2,.slice A3 n3 p3] 29) (.cells #[.string tb,.slice B1 m1 q1,.slice B2 m2 q2,.string od,.bool ds,.int .i64 lm] 32) (.cells #[.int .i64 kd,.string pc,.string pv] 49));have HX1:=zh (xZ w (.cells #[.slice A n c] 26) (.cells #[.string nm,.string gl,.slice A2 n2 p2,.slice A3 n3 p3] 29) (.cells #[.string tb,.slice B1 m1 q1,.slice B2 m2 q2,.string od,.bool ds,.int .i64 lm] 32) (.cells #[.int .i64 kd,.string pc,.string pv] 49));have HX2:=zh (yZ w (.cells #[.slice A n c] 26) (.cells #[.string nm,.string gl,.slice A2 n2 p2,.slice A3 n3 p3] 29) (.cells #[.string tb,.slice B1 m1 q1,.slice B2 m2 q2,.string od,.bool ds,.int .i64 lm] 32) (.cells #[.int .i64 kd,.string pc,.string pv] 49));have HX3:=zh (zZ0 w (.cells #[.slice A n c] 26) (.cells #[.string nm,.string gl,.slice A2 n2 p2,.slice A3 n3 p3] 29) (.cells #[.string tb,.slice B1 m1 q1,.slice B2 m2 q2,.string od,.bool ds,.int .i64 lm] 32) (.cells #[.int .i64 kd,.string pc,.string pv] 49));go_enter Tryz.func21,Tryz.ntmps21;go_wp2_with fail;refine(HK1.out _ HB0.out).mono ?_;rintro e w1 ⟨rfl,hb1⟩;have HB1:=zh (HB0.out.later hb1);have HY0:=zh (Blk.later HX0.out hb1 (by first | (simp;done) | (simp;omega)));have HY1:=zh (Blk.later HX1.out hb1 (by first | (simp;done) | (simp;omega)));have HY2:=zh (Blk.later HX2.out hb1 (by first | (simp;done) | (simp;omega)));have HY3:=zh (Blk.later HX3.out hb1 (by first | (simp;done) | (simp;omega)));clear hb1 HX0 HX1 HX2 HX3;cases xt
 · have HE:Hid (R=(0,1)):=by unfold Hid;rw[HR.out];rfl
   go_wp2_with fail;refine bodyPost_ret (v:=.tuple #[.int .i64 _,.int .i64 _]) (by simp[results,Tryz.results21,go_sem];try exact⟨rfl,rfl⟩) rfl ?_;exact⟨by rw[HE.out],HB1.out⟩
 have p0:=HY0.out.cell;have p1:=HY1.out.cell;have p2':=HY2.out.cell;have p3':=HY3.out.cell;have z3:=HY3.out.lt;go_wp2_with fail;refine(HK2.out _ HB1.out).mono ?_;rintro e w2 ⟨rfl,hb2⟩;have HB2:=zh (HB1.out.later hb2);have HZ0:=zh (HY0.out.later hb2 HY0.out.lt);have HZ1:=zh (HY1.out.later hb2 HY1.out.lt);have HZ3:=zh (HY3.out.later hb2 HY3.out.lt);clear hb2 p0 p1 p2' p3' z3 HY0 HY1 HY2 HY3;cases xf
 · have HE:Hid (R=(0,1)):=by unfold Hid;rw[HR.out];rfl
   go_wp2_with fail;refine bodyPost_ret (v:=.tuple #[.int .i64 _,.int .i64 _]) (by simp[results,Tryz.results21,go_sem];try exact⟨rfl,rfl⟩) rfl ?_;exact⟨by rw[HE.out],HB2.out⟩
 have p0:=HZ0.out.cell;have p1:=HZ1.out.cell;have p3':=HZ3.out.cell;have z3:=HZ3.out.lt;have hRS:R=(if kd=1 then (if 0≤atI (vA gl fs) pv then 1 else 0) else if kd=2 then ((yL gl pc pv fs).length:Int) else ((vA gl fs).length:Int),0):=by rw[HR.out];rfl
 have HRS:=zh hRS;clear hRS HR;generalize hk3:vA gl fs=rs at *;clear hk3;go_wp2_with fail;refine(HK3.out _ HB2.out).mono ?_;rintro e w3 ⟨v,cs,rfl,ho,hc,hb3⟩;have HB3:=zh (HB2.out.later hb3);have HV0:=zh (HZ0.out.later hb3 HZ0.out.lt);have HV1:=zh (HZ1.out.later hb3 HZ1.out.lt);have HV3:=zh (HZ3.out.later hb3 HZ3.out.lt);have HO:=zh ho;have HC:=zh (cellsN_iff.1 hc);have Hb3:=zh hb3;clear hb3 ho hc p0 p1 p3' z3;have p0:=HV0.out.cell;have p1:=HV1.out.cell;have p3':=HV3.out.cell;have z3:=HV3.out.lt;by_cases h1:kd=1
 · have HE:Hid (R=(if 0≤atI rs pv then 1 else 0,0)):=by unfold Hid;rw[HRS.out,if_pos h1]
   subst h1
   have HPd:Hid (zDo 67 #[.pointer (some ⟨w.heap.size+1+1+1,0,none⟩)] (fun d=>!vM pv d) rs w2) :=
    fun d hd c0 c1 c2 W hW hr=>zFW _ c0 c1 c2 _ _ pv d W (HZ3.out.later hW HZ3.out.lt) hr (H2.out d hd)
   have HD:=zh (zBH 67 #[.pointer (some ⟨w.heap.size+1+1+1,0,none⟩)] (fun d=>!vM pv d) v rs cs w2 w3 (zDT w2 w2.heap.size) (fun _ _ h=>h) HO.out HC.out Hb3.out HL.out (enters_of Tryz.func67 (by kernel_rfl) rfl) HPd.out);have hF:(rs.filter fun d=>!(!vM pv d))=rs.filter (vM pv):=by congr 1;funext d;simp
   rw[hF]at HD;have HN:=zh (HKey.out (by trivial));have HN2:Hid ((rs.filter (vM pv)).length≤1048576):=Nat.le_trans (List.length_filter_le _ _) HL.out;clear hF HKey HRS HPd;generalize rs.filter (vM pv)=ks at *;go_wp2_with fail;refine HD.out.mono ?_;rintro e w4 ⟨v4,cs4,rfl,ho4,_,hb4⟩;obtain⟨A4,cap4,rfl,_⟩:=Own.own_slice ho4;have HB4:=zh (HB2.out.later hb4);have HKc:=zh (zFq A4 ks.length cap4 w4 HN2.out);clear ho4 hb4;go_wp2_with fail;refine HKc.out.mono ?_;rintro e w5 ⟨rfl,rfl⟩;go_wp2_with fail;refine bodyPost_ret (v:=.tuple #[.int .i64 _,.int .i64 _]) (by simp[results,Tryz.results21,go_sem];try exact⟨rfl,rfl⟩) rfl ?_;exact⟨by rw[HE.out,HN.out],HB4.out⟩
 by_cases h2:kd=2
 · have HE:Hid (R=(((yL gl pc pv fs).length:Int),0)):=by unfold Hid;rw[HRS.out,if_neg h1,if_pos h2]
   subst h2;clear HRS HKey h1;generalize yL gl pc pv fs=ks at *;go_wp2_with fail;refine(HK4.out _ HB3.out).mono ?_;rintro e w4 ⟨v4,rfl,ho4,hb4⟩;obtain⟨A4,cap4,rfl,_⟩:=ho4.strs;have HB4:=zh (HB3.out.later hb4);have HKc:=zh (zFp A4 ks.length cap4 w4 HL2.out);clear ho4 hb4;go_wp2_with fail;refine HKc.out.mono ?_;rintro e w5 ⟨rfl,rfl⟩;go_wp2_with fail;refine bodyPost_ret (v:=.tuple #[.int .i64 _,.int .i64 _]) (by simp[results,Tryz.results21,go_sem];try exact⟨rfl,rfl⟩) rfl ?_;exact⟨by rw[HE.out],HB4.out⟩
 · have HE:Hid (R=((rs.length:Int),0)):=by unfold Hid;rw[HRS.out,if_neg h1,if_neg h2]
   have i1:=yF h1;have i2:=yF h2;obtain⟨A4,cap4,rfl,_⟩:=Own.own_slice HO.out;have HKc:=zh (zFq A4 rs.length cap4 w3 HL.out);clear HRS HKey h1 h2;go_wp2_with fail;refine HKc.out.mono ?_;rintro e w5 ⟨rfl,rfl⟩;go_wp2_with fail;refine bodyPost_ret (v:=.tuple #[.int .i64 _,.int .i64 _]) (by simp[results,Tryz.results21,go_sem];try exact⟨rfl,rfl⟩) rfl ?_;exact⟨by rw[HE.out],HB3.out⟩
end Go.Proofs.YtfpcjhajjejpdaaGreatDoor
namespace Go.Proofs.YtfpcjhajjejpdaaGreatDoor
open Go.RowKit
set_option linter.unusedVariables false
set_option maxRecDepth 100000 in
theorem zEJ (A:Option Addr) (n c:Nat) (b0 b1 b2 b3:Value) (fs:List NodeD) (b:TableD) (w:World) (h:Nodes w w.heap.size A n fs) (hb:TableR w w.heap.size b0 b1 b2 b3 b) (hs:vC fs) (ht:uA fs=true) (hpos:0<b.cols.length) (hn5:b.cols.length≤5) :
 Calls Tryz.prog 45 #[.agg #[.slice A n c],.agg #[b0,b1,b2,b3]] w (yS (zF0 b.cols (vA b.glob fs)) w):=by
 obtain⟨i0,hi,hz0,hz1,hz2⟩:=info_parts yU;have HK3:=zh (fun W (hW:Below w.heap.size w W)=>zBo A n c b0 b1 b2 b3 fs b W (h.later hW) (hb.later hW) hs);have HKU:=zh (fun W (hW:Below w.heap.size w W) key val hk hv=>zCN b0 b1 b2 b3 b key val W (hb.later hW) hpos hn5 hk hv);have HNV:Hid (∀d∈vA b.glob fs,d.subs.length=2∧(∀s∈d.subs,s.size≤1048576)∧d.val.size≤64):=fun d hd=>⟨zAZ d hd,(hs.2 d (zBa hd)).2.1.2,zCk ht d (zBa hd)⟩;have HR:Hid (zF0 b.cols (vA b.glob fs)=(if 24<(vA b.glob fs).length then ((4:Int),[]) else match uE (zCF b.cols) (vA b.glob fs) with | none=>((14:Int),[]) | some rs=>((0:Int),rs))):=rfl;have HF:Hid (∀d,zCF b.cols d=zJ0 b.cols (d.subs.getD 1 ByteArray.empty) d.val):=fun _=>rfl;obtain⟨rfl,rfl,⟨A2,n2,p2,rfl,s2,k2⟩,⟨A3,n3,p3,rfl,s3,k3⟩⟩:=hb;clear s2 s3 h hs ht hpos hn5;generalize zF0 b.cols (vA b.glob fs)=R at *;generalize vA b.glob fs=ns at *;generalize zJ0 b.cols=up at *;generalize zCF b.cols=kv at *;generalize b.name=nm at *;generalize b.glob=gl at *;have HB0:=zh ((Below.new w (.cells #[.slice A n c] 26)).later (Below.new _ (.cells #[.string nm,.string gl,.slice A2 n2 p2,.slice A3 n3 p3] 29)));have HX1:=zh (vB w (.cells #[.slice A n c] 26) (.cells #[.string nm,.string gl,.slice A2 n2 p2,.slice A3 n3 p3] 29));go_enter Tryz.func45,Tryz.ntmps45;go_wp2_with fail;refine(HK3.out _ HB0.out).mono ?_;rintro e w3 ⟨v,ncs,rfl,ho,hc,hb3⟩;obtain⟨A4,cap4,rfl,_,hN4⟩:=zM0 ho rfl hc hb3;have HN4:=zh hN4;have HB3:=zh (HB0.out.later hb3);have HY1:=zh (Blk.later HX1.out hb3 (by simp));have hw3:=HY1.out.lt;clear ho hc hb3 hN4;generalize hm:ns.length=m at *;have HM:=zh hm;clear hm;by_cases hbig:24<m
 · have HE:Hid (R=(4,[])):=by unfold Hid;rw[HR.out,if_pos hbig]
   go_wp2_with fail
   go_ret2
   rw[HE.out];exact⟨_,rfl,⟨[],Own.OwnL.nil _ _ _⟩,HB3.out.later (Below.new _ _)⟩
 have HR2:Hid (R=match uE kv ns with | none=>((14:Int),[]) | some rs=>((0:Int),rs)):=by unfold Hid;rw[HR.out,if_neg hbig]
 clear HR;go_wp2_with fail;go_loopw [7,21] (fun v i wr=>∃(k:Nat) (acc:List (List ByteArray)),k≤m∧i=.int .i64 k∧acc.length=k∧RowsI wr w3.heap.size v acc∧Below w3.heap.size w3 wr∧Hid (uE kv ns=(uE kv (ns.drop k)).map (acc++·))) (fun _ i _=>m-(intOf i).toNat);case atStart=>exact⟨0,[],Nat.zero_le _,rfl,rfl,uJ w3 _ (Nat.le_refl _),Below.new _ _,by simp[Hid]⟩
 case round =>
  obtain⟨k,acc,hk,rfl,hacc,hrows,hb,hS⟩:=hrel;have HB:=zh hb;obtain⟨vs,hrows⟩:=hrows;have HRW:=zh hrows;have HBw:=zh (HB3.out.later hb);clear hb hrows;by_cases hlt:k<m
  · have hl:k<ns.length:=by rw[HM.out];exact hlt
    obtain⟨bb,o,rfl,hbB,hcn⟩:=(HN4.out.later HB.out).2 (by omega);obtain⟨c0,c1,c2,k0,k1,k2',hr⟩:=hcn k hlt;clear hcn;obtain⟨hd2,hds,hdv⟩:=HNV.out _ (uB ns k hl);have HN:=zh (zDN kv ns k hl);have HSo:=zh (fun x=>zDM kv ns k hl (x:=x));have HFd:=zh (HF.out (ns.getD k default));clear hl;generalize ns.getD k default=d at *;obtain⟨rfl,⟨A1,n1,cap1,rfl,hs1,hcap1⟩,rfl⟩:=hr;obtain rfl:n1=2:=by rw[←hs1.1];exact hd2
    obtain⟨sb,so,rfl,hsb,hsc⟩:=hs1.2 (by omega);have hck:=hsc 1 (by omega);have HKK:=zh (fun W hW=>HKU.out W hW (d.subs.getD 1 ByteArray.empty) d.val (hds _ (uD _ _ (by omega))) hdv);clear hsc hs1 hds hdv hd2;have y0:=(HY1.out.later HB.out hw3).cell 0;have y1:=(HY1.out.later HB.out hw3).cell 1;have y2:=(HY1.out.later HB.out hw3).cell 2;have y3:=(HY1.out.later HB.out hw3).cell 3;simp at y0 y1 y2 y3;have i1:(k:Int)<(m:Int):=by omega
    generalize d.subs.getD 1 ByteArray.empty=key at *;generalize d.val=val at *;generalize up key val=o' at *;generalize d.name=dn at *;have HBq:=zh (Below.new wr (.cells #[.string dn,.slice (some ⟨sb,so,none⟩) 2 cap1,.string val] 83));have HNB:Hid (Blk (wr.alloc (.cells #[.string dn,.slice (some ⟨sb,so,none⟩) 2 cap1,.string val] 83)) wr.heap.size 83 #[.string dn,.slice (some ⟨sb,so,none⟩) 2 cap1,.string val]):=xC rfl;obtain⟨WN,hWN⟩:∃WN,WN=wr.alloc (.cells #[.string dn,.slice (some ⟨sb,so,none⟩) 2 cap1,.string val] 83):=⟨_,rfl⟩;rw[←hWN]at HBq HNB;have HB:=zh (HB.out.later HBq.out);have HRW:=zh (HRW.out.later HBq.out);have HBw:=zh (HBw.out.later HBq.out);have y0:=cell_later HBq.out y0;have y1:=cell_later HBq.out y1;have y2:=cell_later HBq.out y2;have y3:=cell_later HBq.out y3;have hck:=cell_later HBq.out hck;have n1':=HNB.out.cell 1;have n2':=HNB.out.cell 2;have nz:=HNB.out.lt;simp at n1' n2';obtain⟨nb,hnb⟩:∃nb,nb=wr.heap.size:=⟨_,rfl⟩;go_wp2_with fail;rw[←hWN];rw[←hnb]at n1' n2' nz ⊢;clear hWN HBq HNB k0 k1 k2' hnb;have HQ0:Hid (Blk (WN.alloc (.cells #[.slice none 0 0] 40)) WN.heap.size 40 #[.slice none 0 0]):=xC rfl;have HBn:=zh (HBw.out.later (Below.new WN (.cells #[.slice none 0 0] 40)));have HS:Hid (∀W',Below WN.heap.size WN W'→(W'.cell? ⟨w.heap.size+1,0,none⟩=some (.string nm)∧W'.cell? ⟨w.heap.size+1,1,none⟩=some (.string gl)∧W'.cell? ⟨w.heap.size+1,2,none⟩=some (.slice A2 n2 p2)∧W'.cell? ⟨w.heap.size+1,3,none⟩=some (.slice A3 n3 p3)∧W'.cell? ⟨nb,1,none⟩=some (.slice (some ⟨sb,so,none⟩) 2 cap1)∧W'.cell? ⟨nb,2,none⟩=some (.string val)∧W'.cell? ⟨sb,so+1,none⟩=some (.string key))):=fun W' hW=>⟨cell_later hW y0,cell_later hW y1,cell_later hW y2,cell_later hW y3,cell_later hW n1',cell_later hW n2',cell_later hW hck⟩;obtain⟨y0,y1,y2,y3,n1',n2',hck⟩:=HS.out _ (Below.refl _ _)
    go_region_held3 (fun w'=>w'.cell? ⟨w.heap.size+1,0,none⟩=some (.string nm)∧w'.cell? ⟨w.heap.size+1,1,none⟩=some (.string gl)∧w'.cell? ⟨w.heap.size+1,2,none⟩=some (.slice A2 n2 p2)∧w'.cell? ⟨w.heap.size+1,3,none⟩=some (.slice A3 n3 p3)∧w'.cell? ⟨nb,1,none⟩=some (.slice (some ⟨sb,so,none⟩) 2 cap1)∧w'.cell? ⟨nb,2,none⟩=some (.string val)∧w'.cell? ⟨sb,so+1,none⟩=some (.string key)) (first | exact HS.out _ (Below.refl _ _).drew | exact HS.out _ (Below.new _ _).drew | exact HS.out _ HBY.out | exact HS.out _ (HBY.out.later (Below.new _ _)) | exact HS.out _ (HBY.out.setCell (Nat.le_refl _) _))
     (first
       | (go_at_call 106;refine(HKK.out _ HBw.out.drew).mono ?_;rintro e w4 ⟨v',rfl,hsub,hb4'⟩;obtain⟨AC,cc,rfl,hcc,hmc,hac⟩:=Own.own_slice hsub;have HSUB:=zh hsub;have HBX:=zh (wD hb4');have HBY:=zh HBX.out;clear hsub hb4' hac)
       | (go_at_call 106;refine(HKK.out _ HBn.out.drew).mono ?_;rintro e w4 ⟨v',rfl,hsub,hb4'⟩;obtain⟨AC,cc,rfl,hcc,hmc,hac⟩:=Own.own_slice hsub;have HSUB:=zh hsub;have HBX:=zh (wD hb4');have HBY:=zh ((Below.new WN (.cells #[.slice none 0 0] 40)).later HBX.out);have HQ:=zh (Blk.later HQ0.out HBX.out (by simp));have q0:=(Blk.cell HQ.out 0);have qf:=Blk.frozen HQ.out 0;have qz:=Blk.lt HQ.out;simp at q0;clear hsub hb4' hac))
    · have HBZ:=zh (HBX.out.later (Below.new w4 (.cells #[(.slice AC (o'.getD []).length cc)] 40)));have HQ5:Hid (Blk (w4.alloc (.cells #[(.slice AC (o'.getD []).length cc)] 40)) w4.heap.size 40 #[(.slice AC (o'.getD []).length cc)]):=xC rfl;have HS5:Hid (Own.SubO (w4.alloc (.cells #[(.slice AC (o'.getD []).length cc)] 40)) WN.heap.size (.slice AC (o'.getD []).length cc) (o'.getD [])):=Own.own_later HSUB.out (Below.new _ _);have HAPB:WN.heap.size≤WN.heap.size:=Nat.le_refl _;obtain⟨W5,hW5⟩:∃W5,W5=w4.alloc (.cells #[(.slice AC (o'.getD []).length cc)] 40):=⟨_,rfl⟩;rw[←hW5]at HBZ HQ5 HS5 ⊢;clear hW5 HBX HBY HSUB HQ0 HBn;have HB5:=zh (HB.out.later HBZ.out);have HBv:=zh (HB3.out.later HB5.out);have HRW5:=zh (HRW.out.later HBZ.out);have q5:=HQ5.out.cell 0;have qz5:=HQ5.out.lt;simp at q5;have z35:=HB5.out.size;have z36:=HB.out.size
      cases o' with
      | none =>
        have HE:Hid (R=(14,[])):=by unfold Hid;rw[HR2.out,hS.out,HN.out HFd.out];rfl
        have hcu:zAF (none:Option (List ByteArray))=14:=rfl;rw[hcu];clear q5 qz5;go_wp2_with fail
        go_ret2
        rw[HE.out];exact⟨_,rfl,⟨[],Own.OwnL.nil _ _ _⟩,HBv.out⟩
      | some x =>
        have HE:Hid (uE kv ns=(uE kv (ns.drop (k+1))).map ((acc++[x])++·)):=by
         unfold Hid;rw[hS.out,HSo.out x HFd.out,Option.map_map]
         congr 1
         funext l
         simp
        have hcu:zAF (some x)=0:=rfl;rw[hcu];have HO:=zh HRW5.out;have HAP:=zh (Own.OwnL.fresh HRW.out HS5.out HAPB);have hrow:Hid (∀oo,(W5.alloc oo).ownsRow w3.heap.size 40 1 u7 acc.length (Own.flat rowK acc vs)):=fun oo=>Own.own_later HO.out.row (Below.new _ _);have hx5:Own.SubO W5 w3.heap.size (.slice AC x.length cc) x:=Own.own_base HS5.out (by omega);have HX5:=zh hx5;clear hx5;go_wp2_with (at_builtin;refine wpList_append_own _ rfl (.tmp 39) (.tmp 41) 35 rfl w3.heap.size 40 i0 _ 1 24 Tryz.underlying35 hi hz0 hz1 hz2 rfl (by decide) _ acc.length _ rfl (hrow.out _) ⟨_,0,none⟩ 1 1 [.slice AC x.length cc] rfl rfl ?m1 ?m2 ?m3 ?m4 ?m5 ?_);all_goals try (first | exact wC _ #[.slice AC x.length cc] _ _ (by simp) | (simp[Value.oneCell'];done) | (unfold maxLen;omega) | omega | (simp;omega))
        intro v1 w6 hown1 hg1 _;have HN6:Hid (RowsI w6 w3.heap.size v1 (acc++[x])):=by have hX6:Own.SubO (W5.alloc (.cells #[.slice AC x.length cc] 40)) w3.heap.size (.slice AC x.length cc) x:=Own.own_later HX5.out (Below.new _ _);refine⟨vs++[.slice AC x.length cc],Own.OwnL.snoc (HO.out.later (Below.new W5 (.cells #[.slice AC x.length cc] 40))) hX6 HAP.out ?_ hg1 (by decide)⟩;show w6.ownsRow w3.heap.size 40 1 v1 (acc.length+1) (Own.flat rowK acc vs++[.slice AC x.length cc]);rw[hacc];exact hown1
        have HB6:=zh ((HB5.out.later (Below.new W5 (.cells #[.slice AC x.length cc] 40))).grown hg1 (by simp;omega) (fun g hg'=>((hrow.out (.cells #[] 0)).lt g hg').1));clear hown1 hg1;go_wp2_with fail;go_roundw;case rel=>exact⟨k+1,acc++[x],by omega,by go_num,by simp[hacc],HN6.out,HB6.out,HE.out⟩
        case measure=>simp[intOf];omega
    · have HBZ:=zh (HBY.out.setCell (p:=⟨WN.heap.size,0,none⟩) (Nat.le_refl _) (.slice AC (o'.getD []).length cc));have HQ5:Hid (Blk (w4.setCell ⟨WN.heap.size,0,none⟩ (.slice AC (o'.getD []).length cc)) WN.heap.size 40 #[(.slice AC (o'.getD []).length cc)]):=by unfold Hid;have h:=HQ.out.set_ 0 (.slice AC (o'.getD []).length cc);simpa using h
      have HS5:Hid (Own.SubO (w4.setCell ⟨WN.heap.size,0,none⟩ (.slice AC (o'.getD []).length cc)) (WN.alloc (.cells #[.slice none 0 0] 40)).heap.size (.slice AC (o'.getD []).length cc) (o'.getD [])):=Own.sub_far HSUB.out (by simp);have HAPB:WN.heap.size≤(WN.alloc (.cells #[.slice none 0 0] 40)).heap.size:=by simp
      obtain⟨W5,hW5⟩:∃W5,W5=w4.setCell ⟨WN.heap.size,0,none⟩ (.slice AC (o'.getD []).length cc):=⟨_,rfl⟩;rw[←hW5]at HBZ HQ5 HS5 ⊢;clear hW5 HBX HBY HSUB HQ0 HBn q0 qf qz HQ;have HB5:=zh (HB.out.later HBZ.out);have HBv:=zh (HB3.out.later HB5.out);have HRW5:=zh (HRW.out.later HBZ.out);have q5:=HQ5.out.cell 0;have qz5:=HQ5.out.lt;simp at q5;have z35:=HB5.out.size;have z36:=HB.out.size
      cases o' with
      | none =>
        have HE:Hid (R=(14,[])):=by unfold Hid;rw[HR2.out,hS.out,HN.out HFd.out];rfl
        have hcu:zAF (none:Option (List ByteArray))=14:=rfl;rw[hcu];clear q5 qz5;go_wp2_with fail
        go_ret2
        rw[HE.out];exact⟨_,rfl,⟨[],Own.OwnL.nil _ _ _⟩,HBv.out⟩
      | some x =>
        have HE:Hid (uE kv ns=(uE kv (ns.drop (k+1))).map ((acc++[x])++·)):=by
         unfold Hid;rw[hS.out,HSo.out x HFd.out,Option.map_map]
         congr 1
         funext l
         simp
        have hcu:zAF (some x)=0:=rfl;rw[hcu];have HO:=zh HRW5.out;have HAP:=zh (Own.OwnL.fresh HRW.out HS5.out HAPB);have hrow:Hid (∀oo,(W5.alloc oo).ownsRow w3.heap.size 40 1 u7 acc.length (Own.flat rowK acc vs)):=fun oo=>Own.own_later HO.out.row (Below.new _ _);have hx5:Own.SubO W5 w3.heap.size (.slice AC x.length cc) x:=Own.own_base HS5.out (by simp;omega);have HX5:=zh hx5;clear hx5;go_wp2_with (at_builtin;refine wpList_append_own _ rfl (.tmp 39) (.tmp 41) 35 rfl w3.heap.size 40 i0 _ 1 24 Tryz.underlying35 hi hz0 hz1 hz2 rfl (by decide) _ acc.length _ rfl (hrow.out _) ⟨_,0,none⟩ 1 1 [.slice AC x.length cc] rfl rfl ?n1 ?n2 ?n3 ?n4 ?n5 ?_);all_goals try (first | exact wC _ #[.slice AC x.length cc] _ _ (by simp) | (simp[Value.oneCell'];done) | (unfold maxLen;omega) | omega | (simp;omega))
        intro v1 w6 hown1 hg1 _;have HN6:Hid (RowsI w6 w3.heap.size v1 (acc++[x])):=by have hX6:Own.SubO (W5.alloc (.cells #[.slice AC x.length cc] 40)) w3.heap.size (.slice AC x.length cc) x:=Own.own_later HX5.out (Below.new _ _);refine⟨vs++[.slice AC x.length cc],Own.OwnL.snoc (HO.out.later (Below.new W5 (.cells #[.slice AC x.length cc] 40))) hX6 HAP.out ?_ hg1 (by decide)⟩;show w6.ownsRow w3.heap.size 40 1 v1 (acc.length+1) (Own.flat rowK acc vs++[.slice AC x.length cc]);rw[hacc];exact hown1
        have HB6:=zh ((HB5.out.later (Below.new W5 (.cells #[.slice AC x.length cc] 40))).grown hg1 (by simp;omega) (fun g hg'=>((hrow.out (.cells #[] 0)).lt g hg').1));clear hown1 hg1;go_wp2_with fail;go_roundw;case rel=>exact⟨k+1,acc++[x],by omega,by go_num,by simp[hacc],HN6.out,HB6.out,HE.out⟩
        case measure=>simp[intOf];omega
  · have HE:Hid (R=(0,acc)):=by unfold Hid;rw[HR2.out,hS.out,List.drop_of_length_le (by rw[HM.out];omega)];simp[uE]
    go_wp2_with fail
    go_ret2
    rw[HE.out];exact⟨_,rfl,⟨vs,HRW.out.base HB3.out.size⟩,HBw.out⟩
end Go.Proofs.YtfpcjhajjejpdaaGreatDoor
