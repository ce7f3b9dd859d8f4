import Derived.Test.YtfpcjhajjejpdaaGreatDoorZ11
import Derived.Test.YtfpcjhajjejpdaaGreatDoorZ01
import Derived.Test.YtfpcjhajjejpdaaGreatDoorZ10
set_option maxHeartbeats 4000000
open Go.Lib renaming hid → zh
namespace Go.Proofs.YtfpcjhajjejpdaaGreatDoor
open Go.RowKit
def inP (l:List ByteArray) (x:ByteArray):Bool:=decide (0≤xA l x)
def vS (b:TableD) (q:QueryD):Bool:=wM b&&(vN q&&(decide (q.table=b.name)&&((decide (q.order=⟨#[]⟩)||inP b.cols q.order)&&(q.cols.all (inP b.cols)&&q.wher.all fun c=>inP b.cols c.col))))
theorem zFx (p:ByteArray→Bool) (l:List ByteArray) (k:Nat) (h:k<l.length):(l.drop k).all p=(p (l.getD k ByteArray.empty)&&(l.drop (k+1)).all p):=by
 rw[List.drop_eq_getElem_cons h,List.all_cons,List.getD_eq_getElem?_getD,List.getElem?_eq_getElem h];rfl
set_option maxRecDepth 100000 in
theorem zGE (b0 b1 b2 b3 c0 c1 c2 c3 c4 c5:Value) (b:TableD) (d:QueryD) (w:World) (hb:TableR w w.heap.size b0 b1 b2 b3 b) (h:QueryR w w.heap.size c0 c1 c2 c3 c4 c5 d) (hbs:b.small) (hs:d.small) :
 Calls Tryz.prog 48 #[.agg #[b0,b1,b2,b3],.agg #[c0,c1,c2,c3,c4,c5]] w fun e w'=>e=.returned (.bool (vS b d))∧Below w.heap.size w w':=by
 have HKT:=zh (fun W (hW:Below w.heap.size w W)=>zCE b0 b1 b2 b3 b W (hb.later hW) hbs);have HKQ:=zh (fun W (hW:Below w.heap.size w W)=>zDq c0 c1 c2 c3 c4 c5 d W (h.later hW) hs);have HR:Hid (vS b d=(wM b&&(vN d&&(decide (d.table=b.name)&&((decide (d.order=⟨#[]⟩)||inP b.cols d.order)&&(d.cols.all (inP b.cols)&&d.wher.all fun c=>inP b.cols c.col)))))):=rfl;obtain⟨rfl,rfl,⟨A2,n2,p2,rfl,s2,k2⟩,⟨A3,n3,p3,rfl,s3,k3⟩⟩:=hb;obtain⟨rfl,⟨B1,m1,q1,rfl,t1,l1⟩,⟨B2,m2,q2,rfl,t2,l2⟩,rfl,rfl,rfl⟩:=h;have hn2:n2≤1048576:=by rw[←s2.1];exact hbs.2.2.1.1
 have hm1:m1≤1048576:=by rw[←t1.1];exact hs.2.1.1
 have hm2:m2≤1048576:=by rw[←t2.1];exact hs.2.2.1.1
 have HS2:=zh s2;have HT1:=zh t1;have HT2:=zh t2;clear s2 s3 t1 t2 hs hbs;have HKO:=zh (fun W (hW:Below w.heap.size w W)=>uF A2 n2 p2 b.cols d.order W (HS2.out.later hW) hn2);have HO:Hid (inP b.cols d.order=decide (0≤xA b.cols d.order)):=rfl;have hbo:=xD b.cols d.order;rw[HS2.out.1]at hbo;generalize vS b d=R at *;generalize wM b=x0 at *;generalize vN d=x1 at *;generalize inP b.cols d.order=xo at *;generalize xA b.cols d.order=yo at *;generalize b.name=nm at *;generalize b.glob=gl at *;generalize b.cols=bc at *;generalize d.table=tb at *;generalize d.order=od at *;generalize d.desc=ds at *;generalize d.limit=lm at *;generalize d.cols=cols at *;generalize d.wher=wher at *;have HB0:=zh ((Below.new w (.cells #[.string nm,.string gl,.slice A2 n2 p2,.slice A3 n3 p3] 29)).later (Below.new _ (.cells #[.string tb,.slice B1 m1 q1,.slice B2 m2 q2,.string od,.bool ds,.int .i64 lm] 32)));go_enter Tryz.func48,Tryz.ntmps48;go_wp2_with fail;refine(HKT.out _ HB0.out).mono ?_;rintro e w1 ⟨rfl,hb1⟩;have HB1:=zh (HB0.out.later hb1);have px:=(Blk.later (zC0 w _ _) hb1 (by simp;omega)).cell;have py:=(Blk.later (uB w _ _) hb1 (by simp)).cell;have hz1:w.heap.size+1<w1.heap.size:=by have:=hb1.size;simp at this;omega
 cases x0
 · have HE:Hid (R=false):=by unfold Hid;rw[HR.out];rfl
   clear hb1;go_wp2_with fail;go_ret;exact⟨zA0 HE.out.symm,HB1.out⟩
 have HBB:=zh hb1;clear hb1;go_wp2_with fail;refine(HKQ.out _ HB1.out).mono ?_;rintro e w2 ⟨rfl,hb2'⟩;have hb2:=HBB.out.trans (hb2'.mono (by simp;omega));have HB2:=zh (HB1.out.later hb2');clear px py hb2';have px:=(Blk.later (zC0 w _ _) hb2 (by simp;omega)).cell;have py:=(Blk.later (uB w _ _) hb2 (by simp)).cell;have hz2:w.heap.size+1<w2.heap.size:=by have:=hb2.size;simp at this;omega
 have HBB2:=zh hb2;clear hb2;cases x1
 · have HE:Hid (R=false):=by unfold Hid;rw[HR.out];rfl
   go_wp2_with fail;go_ret;exact⟨zA0 HE.out.symm,HB2.out⟩
 by_cases hnm:tb=nm
 case neg =>
  have HE:Hid (R=false):=by unfold Hid;rw[HR.out,decide_eq_false hnm];rfl
  have hbn:=zP0 hnm;have hbe:=uC hnm;clear hnm;go_wp2_with fail;go_ret;exact⟨zA0 HE.out.symm,HB2.out⟩
 subst hnm;have HR1:Hid (R=((decide (od=⟨#[]⟩)||xo)&&(cols.all (inP bc)&&wher.all fun c=>inP bc c.col))):=by unfold Hid;rw[HR.out];simp
 clear HR;have HEnd:Hid (∀(W:World),Below (w.heap.size+1+1) ((w.alloc (.cells #[.string tb,.string gl,.slice A2 n2 p2,.slice A3 n3 p3] 29)).alloc (.cells #[.string tb,.slice B1 m1 q1,.slice B2 m2 q2,.string od,.bool ds,.int .i64 lm] 32)) W→Below w.heap.size w W):=fun W hW=>HB0.out.trans (hW.mono (by omega));have HSt:Hid (Below (w.heap.size+1+1) ((w.alloc (.cells #[.string tb,.string gl,.slice A2 n2 p2,.slice A3 n3 p3] 29)).alloc (.cells #[.string tb,.slice B1 m1 q1,.slice B2 m2 q2,.string od,.bool ds,.int .i64 lm] 32)) w2):=by have:=HBB2.out;simp only[World.size_alloc]at this;exact this
 by_cases ho:od=⟨#[]⟩
 · subst ho;have HE:Hid (R=(cols.all (inP bc)&&wher.all fun c=>inP bc c.col)):=by unfold Hid;rw[HR1.out];rfl
   clear HR1;go_wp2_with fail;go_loopw [5] (fun i wr=>∃(k:Nat),k≤m1∧i=.int .i64 k∧Below (w.heap.size+1+1) ((w.alloc (.cells #[.string tb,.string gl,.slice A2 n2 p2,.slice A3 n3 p3] 29)).alloc (.cells #[.string tb,.slice B1 m1 q1,.slice B2 m2 q2,.string ⟨#[]⟩,.bool ds,.int .i64 lm] 32)) wr∧Hid (R=((cols.drop k).all (inP bc)&&wher.all fun c=>inP bc c.col))) (fun i _=>m1-(intOf i).toNat);case atStart=>exact⟨0,Nat.zero_le _,rfl,HSt.out,HE.out⟩
   case round =>
    obtain⟨k,hk,rfl,hb,hS⟩:=hrel;clear px py;have px:=(Blk.later (zC0 w _ _) hb (by omega)).cell;have py:=(Blk.later (uB w _ _) hb (by omega)).cell;have hz3:w.heap.size+1<wr.heap.size:=by have:=hb.size;simp at this;omega
    have HBw:=zh (HEnd.out _ hb);have HBk:=zh hb;clear hb;by_cases hlt:k<m1
    · obtain⟨b,o,rfl,hbl,hcell⟩:=(HT1.out.later HBw.out).2 (by omega);have hck:=hcell k hlt;clear hcell;have hl:k<cols.length:=by rw[HT1.out.1];exact hlt
      have HStp:=zh (zFx (inP bc) cols k hl);have HKp:=zh (fun W (hW:Below w.heap.size w W)=>uF A2 n2 p2 bc (cols.getD k ByteArray.empty) W (HS2.out.later hW) hn2);have hbd:=xD bc (cols.getD k ByteArray.empty);rw[HS2.out.1]at hbd;have HI:Hid (inP bc (cols.getD k ByteArray.empty)=decide (0≤xA bc (cols.getD k ByteArray.empty))):=rfl;have i1:(k:Int)<(m1:Int):=by omega
      have x2:=px 2;have y1:=py 1;simp at x2 y1;clear hl;generalize inP bc (cols.getD k ByteArray.empty)=xx at *;generalize cols.getD k ByteArray.empty=s at *;generalize xA bc s=y at *;go_wp2_with fail
      go_quiet (first | (go_at_call 90;refine zAD (HKp.out _ (by exact vA HBw.out _))))
      by_cases hy:y<0
      · have HE2:Hid (R=false):=by unfold Hid;rw[hS.out,HStp.out,HI.out,decide_eq_false (show ¬0≤y by omega)];rfl
        go_wp2_with fail;go_ret;exact⟨zA0 HE2.out.symm,vA HBw.out _⟩
      · have HE2:Hid (R=((cols.drop (k+1)).all (inP bc)&&wher.all fun c=>inP bc c.col)):=by unfold Hid;rw[hS.out,HStp.out,HI.out,decide_eq_true (show 0≤y by omega)];rfl
        go_wp2_with fail;go_roundw;case rel=>exact⟨k+1,by omega,by go_num,vA HBk.out _,HE2.out⟩
        case measure=>simp[intOf];omega
    · have HE2:Hid (R=(wher.drop 0).all fun c=>inP bc c.col):=by unfold Hid;rw[hS.out,List.drop_of_length_le (by rw[HT1.out.1];omega)];rfl
      clear hS HE;go_wp2_with fail;go_loopw [6] (fun i wq=>∃(j:Nat),j≤m2∧i=.int .i64 j∧Below (w.heap.size+1+1) ((w.alloc (.cells #[.string tb,.string gl,.slice A2 n2 p2,.slice A3 n3 p3] 29)).alloc (.cells #[.string tb,.slice B1 m1 q1,.slice B2 m2 q2,.string ⟨#[]⟩,.bool ds,.int .i64 lm] 32)) wq∧Hid (R=(wher.drop j).all fun c=>inP bc c.col)) (fun i _=>m2-(intOf i).toNat);case atStart=>exact⟨0,Nat.zero_le _,rfl,HBk.out,HE2.out⟩
      case round =>
       obtain⟨j,hj,rfl,hb,hS2⟩:=hrel;clear px py HBw HBk hz3;have px:=(Blk.later (zC0 w _ _) hb (by omega)).cell;have py:=(Blk.later (uB w _ _) hb (by omega)).cell;have hz3:w.heap.size+1<wr.heap.size:=by have:=hb.size;simp at this;omega
       have HBw:=zh (HEnd.out _ hb);have HBk:=zh hb;clear hb;by_cases hltj:j<m2
       · obtain⟨b,o,rfl,hbl,hcell⟩:=(HT2.out.later HBw.out).2 (by omega);obtain⟨c0,c1,c2,k0,k1',k2',hr⟩:=hcell j hltj;clear hcell;have hl:j<wher.length:=by rw[HT2.out.1];exact hltj
         have HStp:=zh (zBk (fun c:CondD=>inP bc c.col) wher j hl);have HKp:=zh (fun W (hW:Below w.heap.size w W)=>uF A2 n2 p2 bc (wher.getD j default).col W (HS2.out.later hW) hn2);have hbd:=xD bc (wher.getD j default).col;rw[HS2.out.1]at hbd;have HI:Hid (inP bc (wher.getD j default).col=decide (0≤xA bc (wher.getD j default).col)):=rfl;have i1:(j:Int)<(m2:Int):=by omega
         have x2:=px 2;have y2:=py 2;simp at x2 y2;clear hl;generalize wher.getD j default=f at *;obtain⟨e0,e1,e2⟩:=hr;subst e0 e1 e2;generalize inP bc f.col=xx at *;generalize f.col=s at *;generalize xA bc s=y at *;go_wp2_with fail
         go_quiet (first | (go_at_call 90;refine zAD (HKp.out _ (by exact vA HBw.out _))))
         by_cases hy:y<0
         · have HE3:Hid (R=false):=by unfold Hid;rw[hS2.out,HStp.out,HI.out,decide_eq_false (show ¬0≤y by omega)];rfl
           go_wp2_with fail;go_ret;exact⟨zA0 HE3.out.symm,vA HBw.out _⟩
         · have HE3:Hid (R=(wher.drop (j+1)).all fun c=>inP bc c.col):=by unfold Hid;rw[hS2.out,HStp.out,HI.out,decide_eq_true (show 0≤y by omega)];rfl
           go_wp2_with fail;go_roundw;case rel=>exact⟨j+1,by omega,by go_num,vA HBk.out _,HE3.out⟩
           case measure=>simp[intOf];omega
       · have HE3:Hid (R=true):=by unfold Hid;rw[hS2.out,List.drop_of_length_le (by rw[HT2.out.1];omega)];rfl
         go_wp2_with fail;go_ret;exact⟨zA0 HE3.out.symm,HBw.out⟩
 · have hbe:=uN ho;have hbe2:=uC ho;have hbn:=zP0 ho;have HO2:Hid (decide (od=⟨#[]⟩)=false):=decide_eq_false ho;clear ho;go_wp2_with fail;refine(HKO.out _ HB2.out).mono ?_;rintro e w3 ⟨rfl,rfl⟩;by_cases hy:yo<0
   · have HE:Hid (R=false):=by unfold Hid;rw[HR1.out,HO2.out,HO.out,decide_eq_false (show ¬0≤yo by omega)];rfl
     go_wp2_with fail;go_ret;exact⟨zA0 HE.out.symm,HB2.out⟩
   have HE:Hid (R=(cols.all (inP bc)&&wher.all fun c=>inP bc c.col)):=by unfold Hid;rw[HR1.out,HO.out,decide_eq_true (show 0≤yo by omega)];simp
   clear HR1;go_wp2_with fail;go_loopw [5] (fun i wr=>∃(k:Nat),k≤m1∧i=.int .i64 k∧Below (w.heap.size+1+1) ((w.alloc (.cells #[.string tb,.string gl,.slice A2 n2 p2,.slice A3 n3 p3] 29)).alloc (.cells #[.string tb,.slice B1 m1 q1,.slice B2 m2 q2,.string od,.bool ds,.int .i64 lm] 32)) wr∧Hid (R=((cols.drop k).all (inP bc)&&wher.all fun c=>inP bc c.col))) (fun i _=>m1-(intOf i).toNat);case atStart=>exact⟨0,Nat.zero_le _,rfl,HSt.out,HE.out⟩
   case round =>
    obtain⟨k,hk,rfl,hb,hS⟩:=hrel;clear px py;have px:=(Blk.later (zC0 w _ _) hb (by omega)).cell;have py:=(Blk.later (uB w _ _) hb (by omega)).cell;have hz3:w.heap.size+1<wr.heap.size:=by have:=hb.size;simp at this;omega
    have HBw:=zh (HEnd.out _ hb);have HBk:=zh hb;clear hb;by_cases hlt:k<m1
    · obtain⟨b,o,rfl,hbl,hcell⟩:=(HT1.out.later HBw.out).2 (by omega);have hck:=hcell k hlt;clear hcell;have hl:k<cols.length:=by rw[HT1.out.1];exact hlt
      have HStp:=zh (zFx (inP bc) cols k hl);have HKp:=zh (fun W (hW:Below w.heap.size w W)=>uF A2 n2 p2 bc (cols.getD k ByteArray.empty) W (HS2.out.later hW) hn2);have hbd:=xD bc (cols.getD k ByteArray.empty);rw[HS2.out.1]at hbd;have HI:Hid (inP bc (cols.getD k ByteArray.empty)=decide (0≤xA bc (cols.getD k ByteArray.empty))):=rfl;have i1:(k:Int)<(m1:Int):=by omega
      have x2:=px 2;have y1:=py 1;simp at x2 y1;clear hl;generalize inP bc (cols.getD k ByteArray.empty)=xx at *;generalize cols.getD k ByteArray.empty=s at *;generalize xA bc s=y at *;go_wp2_with fail
      go_quiet (first | (go_at_call 90;refine zAD (HKp.out _ (by exact vA HBw.out _))))
      by_cases hy:y<0
      · have HE2:Hid (R=false):=by unfold Hid;rw[hS.out,HStp.out,HI.out,decide_eq_false (show ¬0≤y by omega)];rfl
        go_wp2_with fail;go_ret;exact⟨zA0 HE2.out.symm,vA HBw.out _⟩
      · have HE2:Hid (R=((cols.drop (k+1)).all (inP bc)&&wher.all fun c=>inP bc c.col)):=by unfold Hid;rw[hS.out,HStp.out,HI.out,decide_eq_true (show 0≤y by omega)];rfl
        go_wp2_with fail;go_roundw;case rel=>exact⟨k+1,by omega,by go_num,vA HBk.out _,HE2.out⟩
        case measure=>simp[intOf];omega
    · have HE2:Hid (R=(wher.drop 0).all fun c=>inP bc c.col):=by unfold Hid;rw[hS.out,List.drop_of_length_le (by rw[HT1.out.1];omega)];rfl
      clear hS HE;go_wp2_with fail;go_loopw [6] (fun i wq=>∃(j:Nat),j≤m2∧i=.int .i64 j∧Below (w.heap.size+1+1) ((w.alloc (.cells #[.string tb,.string gl,.slice A2 n2 p2,.slice A3 n3 p3] 29)).alloc (.cells #[.string tb,.slice B1 m1 q1,.slice B2 m2 q2,.string od,.bool ds,.int .i64 lm] 32)) wq∧Hid (R=(wher.drop j).all fun c=>inP bc c.col)) (fun i _=>m2-(intOf i).toNat);case atStart=>exact⟨0,Nat.zero_le _,rfl,HBk.out,HE2.out⟩
      case round =>
       obtain⟨j,hj,rfl,hb,hS2⟩:=hrel;clear px py HBw HBk hz3;have px:=(Blk.later (zC0 w _ _) hb (by omega)).cell;have py:=(Blk.later (uB w _ _) hb (by omega)).cell;have hz3:w.heap.size+1<wr.heap.size:=by have:=hb.size;simp at this;omega
       have HBw:=zh (HEnd.out _ hb);have HBk:=zh hb;clear hb;by_cases hltj:j<m2
       · obtain⟨b,o,rfl,hbl,hcell⟩:=(HT2.out.later HBw.out).2 (by omega);obtain⟨c0,c1,c2,k0,k1',k2',hr⟩:=hcell j hltj;clear hcell;have hl:j<wher.length:=by rw[HT2.out.1];exact hltj
         have HStp:=zh (zBk (fun c:CondD=>inP bc c.col) wher j hl);have HKp:=zh (fun W (hW:Below w.heap.size w W)=>uF A2 n2 p2 bc (wher.getD j default).col W (HS2.out.later hW) hn2);have hbd:=xD bc (wher.getD j default).col;rw[HS2.out.1]at hbd;have HI:Hid (inP bc (wher.getD j default).col=decide (0≤xA bc (wher.getD j default).col)):=rfl;have i1:(j:Int)<(m2:Int):=by omega
         have x2:=px 2;have y2:=py 2;simp at x2 y2;clear hl;generalize wher.getD j default=f at *;obtain⟨e0,e1,e2⟩:=hr;subst e0 e1 e2;generalize inP bc f.col=xx at *;generalize f.col=s at *;generalize xA bc s=y at *;go_wp2_with fail
         go_quiet (first | (go_at_call 90;refine zAD (HKp.out _ (by exact vA HBw.out _))))
         by_cases hy:y<0
         · have HE3:Hid (R=false):=by unfold Hid;rw[hS2.out,HStp.out,HI.out,decide_eq_false (show ¬0≤y by omega)];rfl
           go_wp2_with fail;go_ret;exact⟨zA0 HE3.out.symm,vA HBw.out _⟩
         · have HE3:Hid (R=(wher.drop (j+1)).all fun c=>inP bc c.col):=by unfold Hid;rw[hS2.out,HStp.out,HI.out,decide_eq_true (show 0≤y by omega)];rfl
           go_wp2_with fail;go_roundw;case rel=>exact⟨j+1,by omega,by go_num,vA HBk.out _,HE3.out⟩
           case measure=>simp[intOf];omega
       · have HE3:Hid (R=true):=by unfold Hid;rw[hS2.out,List.drop_of_length_le (by rw[HT2.out.1];omega)];rfl
         go_wp2_with fail;go_ret;exact⟨zA0 HE3.out.symm,HBw.out⟩
end Go.Proofs.YtfpcjhajjejpdaaGreatDoor
namespace Go.Proofs.YtfpcjhajjejpdaaGreatDoor
open Go.RowKit
theorem wS {a b:Int} (h:a≠b):(a==b)=false:=beq_eq_false_iff_ne.2 h
end Go.Proofs.YtfpcjhajjejpdaaGreatDoor
namespace Go.Proofs.YtfpcjhajjejpdaaGreatDoor
open Go.RowKit
def RowR (w:World) (B:Nat) (c0:Value) (d:List ByteArray):Prop:=∃A n cap,c0=.slice A n cap∧Strs w B A n d∧n≤cap
theorem RowR.later {w w':World} {c0:Value} {d:List ByteArray} (h:RowR w w.heap.size c0 d) (hb:Below w.heap.size w w'):RowR w' w'.heap.size c0 d:=by
 obtain⟨A,n,cap,e,s,k⟩:=h;exact⟨A,n,cap,e,s.later hb,k⟩
def yH (d:List ByteArray):Prop:=d.length≤1048576∧∀s∈d,s.size≤1048576
def vQ (cols d:List ByteArray):Bool:=decide (d.length=cols.length)&&(decide (d.getD 0 ByteArray.empty≠⟨#[]⟩)&&d.all wI)
theorem zJY (p:ByteArray→Bool) (l:List ByteArray) (k:Nat) (h:k<l.length):(l.drop k).all p=(p (l.getD k ByteArray.empty)&&(l.drop (k+1)).all p):=by
 rw[List.drop_eq_getElem_cons h,List.all_cons,List.getD_eq_getElem?_getD,List.getElem?_eq_getElem h];rfl
theorem xE (l:List ByteArray) (k:Nat) (h:k<l.length):l.getD k ByteArray.empty∈l:=by
 rw[List.getD_eq_getElem?_getD,List.getElem?_eq_getElem h];exact List.getElem_mem h
set_option maxRecDepth 100000 in
theorem zDV (b0 b1 b2 b3 r0:Value) (b:TableD) (d:List ByteArray) (w:World) (hb:TableR w w.heap.size b0 b1 b2 b3 b) (h:RowR w w.heap.size r0 d) (hs:yH d) (hpos:0<b.cols.length) :
 Calls Tryz.prog 78 #[.agg #[b0,b1,b2,b3],.agg #[r0]] w fun e w'=>e=.returned (.bool (vQ b.cols d))∧Below w.heap.size w w':=by
 obtain⟨rfl,rfl,⟨A2,n2,p2,rfl,s2,k2⟩,⟨A3,n3,p3,rfl,s3,k3⟩⟩:=hb;obtain⟨A,n,cap,rfl,hS,hcap⟩:=h;have HR:Hid (vQ b.cols d=(decide (n=n2)&&(decide (d.getD 0 ByteArray.empty≠⟨#[]⟩)&&d.all wI))):=by unfold Hid vQ;rw[hS.1,s2.1]
 rw[s2.1]at hpos;have hn:n≤1048576:=by rw[←hS.1];exact hs.1
 have HSS:=zh hS;have HK:=zh (fun W k (hk:k<d.length)=>zDf (d.getD k ByteArray.empty) W (hs.2 _ (xE d k hk)));have HB0:=zh ((Below.new w (.cells #[.string b.name,.string b.glob,.slice A2 n2 p2,.slice A3 n3 p3] 29)).later (Below.new _ (.cells #[.slice A n cap] 40)));have HX1:=zh (uB w (.cells #[.string b.name,.string b.glob,.slice A2 n2 p2,.slice A3 n3 p3] 29) (.cells #[.slice A n cap] 40));clear s2 s3 hS hs;generalize vQ b.cols d=R at *;generalize b.name=nm at *;generalize b.glob=gl at *;go_enter Tryz.func78,Tryz.ntmps78;by_cases hlen:n=n2
 case neg =>
  have HE:Hid (R=false):=by unfold Hid;rw[HR.out,decide_eq_false hlen];rfl
  have hb3:((n:Int)==(n2:Int))=false:=by rw[beq_eq_false_iff_ne];omega
  have hb4:(n==n2)=false:=by rw[beq_eq_false_iff_ne];omega
  have hb5:((n:Int) != (n2:Int))=true:=by rw[bne,hb3];rfl
  clear hlen HR;go_wp2_with fail;go_ret;exact⟨zA0 HE.out.symm,HB0.out⟩
 subst hlen;obtain⟨bk,o,rfl,hbk,hcell⟩:=(HSS.out.later HB0.out).2 hpos;have hck:=hcell 0 hpos;rw[Nat.add_zero]at hck;have HC:=zh hcell;clear hcell;have hn0:(0:Int)<(n:Int):=by omega
 generalize hd0:d.getD 0 ByteArray.empty=s0 at *;by_cases h0:s0=⟨#[]⟩
 · have HE:Hid (R=false):=by unfold Hid;rw[HR.out,decide_eq_false (show ¬(s0≠⟨#[]⟩) from fun hh=>hh h0)];simp
   subst h0;clear HR;go_wp2_with fail;go_ret;exact⟨zA0 HE.out.symm,HB0.out⟩
 have HE:Hid (R=(d.drop 0).all wI):=by unfold Hid;rw[HR.out,decide_eq_true h0];simp
 have hbe:=uC h0;have hbe3:=uN h0;clear h0 HR hd0;go_wp2_with fail;go_loopw [5] (fun i wr=>∃k:Nat,k≤n∧i=.int .i64 k∧wr=((w.alloc (.cells #[.string nm,.string gl,.slice A2 n p2,.slice A3 n3 p3] 29)).alloc (.cells #[.slice (some ⟨bk,o,none⟩) n cap] 40))∧Hid (R=(d.drop k).all wI)) (fun i _=>n-(intOf i).toNat);case atStart=>exact⟨0,Nat.zero_le _,rfl,rfl,HE.out⟩
 case round =>
  obtain⟨k,hk,rfl,rfl,hS⟩:=hrel;by_cases hlt:k<n
  · have hl:k<d.length:=by rw[HSS.out.1];exact hlt
    have HSt:=zh (zJY wI d k hl);have hck2:=HC.out k hlt;have HKk:=zh (fun W=>HK.out W k hl);clear hl;generalize d.getD k ByteArray.empty=s at *;generalize wI s=x at *;go_wp2_with fail;refine(HKk.out _).mono ?_;rintro e w1 ⟨rfl,rfl⟩;cases x
    · have HE2:Hid (R=false):=by unfold Hid;rw[hS.out,HSt.out];rfl
      go_wp2_with fail;go_ret;exact⟨zA0 HE2.out.symm,HB0.out⟩
    · have HE2:Hid (R=(d.drop (k+1)).all wI):=by unfold Hid;rw[hS.out,HSt.out];rfl
      go_wp2_with fail;go_roundw;case rel=>exact⟨k+1,by omega,by go_num,(by first | rfl | trivial),HE2.out⟩
      case measure=>simp[intOf];omega
  · have HE2:Hid (R=true):=by unfold Hid;rw[hS.out,List.drop_of_length_le (by rw[HSS.out.1];omega)];rfl
    go_wp2_with fail;go_ret;exact⟨zA0 HE2.out.symm,HB0.out⟩
def uP (cell:ByteArray) (c:CondD):Bool:=if c.op=1 then decide (cell=c.val) else if c.op=4 then decide (cell≠c.val) else if c.op=2 then yB cell c.val else if c.op=3 then yB c.val cell else false
theorem zCz (cell:ByteArray) (c0 c1 c2:Value) (d:CondD) (w:World) (h:CondR w w.heap.size c0 c1 c2 d) (hs:d.small) (hc:cell.size≤1048576) :
 Calls Tryz.prog 175 #[.string cell,.agg #[c0,c1,c2]] w fun e w'=>e=.returned (.bool (uP cell d))∧Below w.heap.size w w':=by
 obtain⟨rfl,rfl,rfl⟩:=h;have HR:Hid (uP cell d=(if d.op=1 then decide (cell=d.val) else if d.op=4 then decide (cell≠d.val) else if d.op=2 then yB cell d.val else if d.op=3 then yB d.val cell else false)):=rfl;have HK1:=zh (fun W=>yJ cell d.val W hc hs.2);have HK2:=zh (fun W=>yJ d.val cell W hs.2 hc);have HB0:=zh (fun o=>Below.new w o);clear hs hc;generalize uP cell d=R at *;generalize d.op=op at *;generalize d.col=cl at *;generalize d.val=vl at *;go_enter Tryz.func175,Tryz.ntmps175;by_cases h1:op=1
 · have HE:Hid (R=decide (cell=vl)):=by unfold Hid;rw[HR.out,if_pos h1]
   subst h1;clear HR;by_cases he:cell=vl
   · have HE2:Hid (R=true):=by unfold Hid;rw[HE.out,decide_eq_true he]
     subst he;go_wp2_with fail;go_ret;exact⟨zA0 HE2.out.symm,HB0.out _⟩
   · have HE2:Hid (R=false):=by unfold Hid;rw[HE.out,decide_eq_false he]
     have hbe:=uC he;clear he;go_wp2_with fail;go_ret;exact⟨zA0 HE2.out.symm,HB0.out _⟩
 by_cases h4:op=4
 · have HE:Hid (R=decide (cell≠vl)):=by unfold Hid;rw[HR.out,if_neg h1,if_pos h4]
   subst h4;clear HR h1;by_cases he:cell=vl
   · have HE2:Hid (R=false):=by unfold Hid;rw[HE.out,decide_eq_false (fun h=>h he)]
     subst he;go_wp2_with fail;go_ret;exact⟨zA0 HE2.out.symm,HB0.out _⟩
   · have HE2:Hid (R=true):=by unfold Hid;rw[HE.out,decide_eq_true he]
     have hbe:=uC he;have hbn:=zP0 he;clear he;go_wp2_with fail;go_ret;exact⟨zA0 HE2.out.symm,HB0.out _⟩
 by_cases h2:op=2
 · have HE:Hid (R=yB cell vl):=by unfold Hid;rw[HR.out,if_neg h1,if_neg h4,if_pos h2]
   subst h2;clear HR h1 h4;generalize yB cell vl=x at *;go_wp2_with fail;refine(HK1.out _).mono ?_;rintro e w1 ⟨rfl,hb1⟩;have HB:=zh ((HB0.out _).later hb1);clear hb1;go_wp2_with fail;go_ret;exact⟨zA0 HE.out.symm,HB.out⟩
 by_cases h3:op=3
 · have HE:Hid (R=yB vl cell):=by unfold Hid;rw[HR.out,if_neg h1,if_neg h4,if_neg h2,if_pos h3]
   subst h3;clear HR h1 h4 h2;generalize yB vl cell=x at *;go_wp2_with fail;refine(HK2.out _).mono ?_;rintro e w1 ⟨rfl,hb1⟩;have HB:=zh ((HB0.out _).later hb1);clear hb1;go_wp2_with fail;go_ret;exact⟨zA0 HE.out.symm,HB.out⟩
 · have HE:Hid (R=false):=by unfold Hid;rw[HR.out,if_neg h1,if_neg h4,if_neg h2,if_neg h3]
   have i1:=wS h1;have i2:=wS h2;have i3:=wS h3;have i4:=wS h4;clear HR h1 h2 h3 h4;go_wp2_with fail;go_ret;exact⟨zA0 HE.out.symm,HB0.out _⟩
end Go.Proofs.YtfpcjhajjejpdaaGreatDoor
