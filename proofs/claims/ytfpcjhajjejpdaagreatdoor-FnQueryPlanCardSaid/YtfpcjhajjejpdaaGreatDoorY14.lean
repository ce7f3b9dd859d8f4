import Derived.Test.YtfpcjhajjejpdaaGreatDoorY08
import Derived.Test.YtfpcjhajjejpdaaGreatDoorY00
set_option maxHeartbeats 4000000
open Go.Lib renaming hid → zh
namespace Go.Proofs.YtfpcjhajjejpdaaGreatDoor
open Go.RowKit
def inP (l:List ByteArray) (x:ByteArray):Bool:=decide (0≤xA l x)
def xK (b:TableD) (q:QueryD):Bool:=xP b&&(uQ q&&(decide (q.table=b.name)&&((decide (q.order=⟨#[]⟩)||inP b.cols q.order)&&(q.cols.all (inP b.cols)&&q.wher.all fun c=>inP b.cols c.col))))
theorem zGJ (p:ByteArray→Bool) (l:List ByteArray) (k:Nat) (h:k<l.length):(l.drop k).all p=(p (l.getD k ByteArray.empty)&&(l.drop (k+1)).all p):=by
 rw[List.drop_eq_getElem_cons h,List.all_cons,List.getD_eq_getElem?_getD,List.getElem?_eq_getElem h];rfl
set_option maxRecDepth 100000 in
theorem zDW (b0 b1 b2 b3 c0 c1 c2 c3 c4 c5:Value) (b:TableD) (d:QueryD) (w:World) (hb:TableR w w.heap.size b0 b1 b2 b3 b) (h:QueryR w w.heap.size c0 c1 c2 c3 c4 c5 d) (hbs:b.small) (hs:d.small) :
 Calls Tryz.prog 48 #[.agg #[b0,b1,b2,b3],.agg #[c0,c1,c2,c3,c4,c5]] w fun e w'=>e=.returned (.bool (xK b d))∧Below w.heap.size w w':=by
 have HKT:=zh (fun W (hW:Below w.heap.size w W)=>zCo b0 b1 b2 b3 b W (hb.later hW) hbs);have HKQ:=zh (fun W (hW:Below w.heap.size w W)=>zEj c0 c1 c2 c3 c4 c5 d W (h.later hW) hs);have HR:Hid (xK b d=(xP b&&(uQ d&&(decide (d.table=b.name)&&((decide (d.order=⟨#[]⟩)||inP b.cols d.order)&&(d.cols.all (inP b.cols)&&d.wher.all fun c=>inP b.cols c.col)))))):=rfl;obtain⟨rfl,rfl,⟨A2,n2,p2,rfl,s2,k2⟩,⟨A3,n3,p3,rfl,s3,k3⟩⟩:=hb;obtain⟨rfl,⟨B1,m1,q1,rfl,t1,l1⟩,⟨B2,m2,q2,rfl,t2,l2⟩,rfl,rfl,rfl⟩:=h;have hn2:n2≤1048576:=by rw[←s2.1];exact hbs.2.2.1.1
 have hm1:m1≤1048576:=by rw[←t1.1];exact hs.2.1.1
 have hm2:m2≤1048576:=by rw[←t2.1];exact hs.2.2.1.1
 have HS2:=zh s2;have HT1:=zh t1;have HT2:=zh t2;clear s2 s3 t1 t2 hs hbs;have HKO:=zh (fun W (hW:Below w.heap.size w W)=>yE A2 n2 p2 b.cols d.order W (HS2.out.later hW) hn2);have HO:Hid (inP b.cols d.order=decide (0≤xA b.cols d.order)):=rfl;have hbo:=xD b.cols d.order;rw[HS2.out.1]at hbo;generalize xK b d=R at *;generalize xP b=x0 at *;generalize uQ d=x1 at *;generalize inP b.cols d.order=xo at *;generalize xA b.cols d.order=yo at *;generalize b.name=nm at *;generalize b.glob=gl at *;generalize b.cols=bc at *;generalize d.table=tb at *;generalize d.order=od at *;generalize d.desc=ds at *;generalize d.limit=lm at *;generalize d.cols=cols at *;generalize d.wher=wher at *;have HB0:=zh ((Below.new w (.cells #[.string nm,.string gl,.slice A2 n2 p2,.slice A3 n3 p3] 29)).later (Below.new _ (.cells #[.string tb,.slice B1 m1 q1,.slice B2 m2 q2,.string od,.bool ds,.int .i64 lm] 32)));go_enter Tryz.func48,Tryz.ntmps48;go_wp2_with fail;refine(HKT.out _ HB0.out).mono ?_;rintro e w1 ⟨rfl,hb1⟩;have HB1:=zh (HB0.out.later hb1);have px:=(Blk.later (yC w _ _) hb1 (by simp;omega)).cell;have py:=(Blk.later (vB w _ _) hb1 (by simp)).cell;have hz1:w.heap.size+1<w1.heap.size:=by have:=hb1.size;simp at this;omega
 cases x0
 · have HE:Hid (R=false):=by unfold Hid;rw[HR.out];rfl
   clear hb1;go_wp2_with fail;go_ret;exact⟨zA0 HE.out.symm,HB1.out⟩
 have HBB:=zh hb1;clear hb1;go_wp2_with fail;refine(HKQ.out _ HB1.out).mono ?_;rintro e w2 ⟨rfl,hb2'⟩;have hb2:=HBB.out.trans (hb2'.mono (by simp;omega));have HB2:=zh (HB1.out.later hb2');clear px py hb2';have px:=(Blk.later (yC w _ _) hb2 (by simp;omega)).cell;have py:=(Blk.later (vB w _ _) hb2 (by simp)).cell;have hz2:w.heap.size+1<w2.heap.size:=by have:=hb2.size;simp at this;omega
 have HBB2:=zh hb2;clear hb2;cases x1
 · have HE:Hid (R=false):=by unfold Hid;rw[HR.out];rfl
   go_wp2_with fail;go_ret;exact⟨zA0 HE.out.symm,HB2.out⟩
 by_cases hnm:tb=nm
 case neg =>
  have HE:Hid (R=false):=by unfold Hid;rw[HR.out,decide_eq_false hnm];rfl
  have hbn:=yJ hnm;have hbe:=zB0 hnm;clear hnm;go_wp2_with fail;go_ret;exact⟨zA0 HE.out.symm,HB2.out⟩
 subst hnm;have HR1:Hid (R=((decide (od=⟨#[]⟩)||xo)&&(cols.all (inP bc)&&wher.all fun c=>inP bc c.col))):=by unfold Hid;rw[HR.out];simp
 clear HR;have HEnd:Hid (∀(W:World),Below (w.heap.size+1+1) ((w.alloc (.cells #[.string tb,.string gl,.slice A2 n2 p2,.slice A3 n3 p3] 29)).alloc (.cells #[.string tb,.slice B1 m1 q1,.slice B2 m2 q2,.string od,.bool ds,.int .i64 lm] 32)) W→Below w.heap.size w W):=fun W hW=>HB0.out.trans (hW.mono (by omega));have HSt:Hid (Below (w.heap.size+1+1) ((w.alloc (.cells #[.string tb,.string gl,.slice A2 n2 p2,.slice A3 n3 p3] 29)).alloc (.cells #[.string tb,.slice B1 m1 q1,.slice B2 m2 q2,.string od,.bool ds,.int .i64 lm] 32)) w2):=by have:=HBB2.out;simp only[World.size_alloc]at this;exact this
 by_cases ho:od=⟨#[]⟩
 · subst ho;have HE:Hid (R=(cols.all (inP bc)&&wher.all fun c=>inP bc c.col)):=by unfold Hid;rw[HR1.out];rfl
   clear HR1;go_wp2_with fail;go_loopw [5] (fun i wr=>∃(k:Nat),k≤m1∧i=.int .i64 k∧Below (w.heap.size+1+1) ((w.alloc (.cells #[.string tb,.string gl,.slice A2 n2 p2,.slice A3 n3 p3] 29)).alloc (.cells #[.string tb,.slice B1 m1 q1,.slice B2 m2 q2,.string ⟨#[]⟩,.bool ds,.int .i64 lm] 32)) wr∧Hid (R=((cols.drop k).all (inP bc)&&wher.all fun c=>inP bc c.col))) (fun i _=>m1-(intOf i).toNat);case atStart=>exact⟨0,Nat.zero_le _,rfl,HSt.out,HE.out⟩
   case round =>
    obtain⟨k,hk,rfl,hb,hS⟩:=hrel;clear px py;have px:=(Blk.later (yC w _ _) hb (by omega)).cell;have py:=(Blk.later (vB w _ _) hb (by omega)).cell;have hz3:w.heap.size+1<wr.heap.size:=by have:=hb.size;simp at this;omega
    have HBw:=zh (HEnd.out _ hb);have HBk:=zh hb;clear hb;by_cases hlt:k<m1
    · obtain⟨b,o,rfl,hbl,hcell⟩:=(HT1.out.later HBw.out).2 (by omega);have hck:=hcell k hlt;clear hcell;have hl:k<cols.length:=by rw[HT1.out.1];exact hlt
      have HStp:=zh (zGJ (inP bc) cols k hl);have HKp:=zh (fun W (hW:Below w.heap.size w W)=>yE A2 n2 p2 bc (cols.getD k ByteArray.empty) W (HS2.out.later hW) hn2);have hbd:=xD bc (cols.getD k ByteArray.empty);rw[HS2.out.1]at hbd;have HI:Hid (inP bc (cols.getD k ByteArray.empty)=decide (0≤xA bc (cols.getD k ByteArray.empty))):=rfl;have i1:(k:Int)<(m1:Int):=by omega
      have x2:=px 2;have y1:=py 1;simp at x2 y1;clear hl;generalize inP bc (cols.getD k ByteArray.empty)=xx at *;generalize cols.getD k ByteArray.empty=s at *;generalize xA bc s=y at *;go_wp2_with fail
      go_quiet (first | (go_at_call 90;refine zBp (HKp.out _ (by exact wA HBw.out _))))
      by_cases hy:y<0
      · have HE2:Hid (R=false):=by unfold Hid;rw[hS.out,HStp.out,HI.out,decide_eq_false (show ¬0≤y by omega)];rfl
        go_wp2_with fail;go_ret;exact⟨zA0 HE2.out.symm,wA HBw.out _⟩
      · have HE2:Hid (R=((cols.drop (k+1)).all (inP bc)&&wher.all fun c=>inP bc c.col)):=by unfold Hid;rw[hS.out,HStp.out,HI.out,decide_eq_true (show 0≤y by omega)];rfl
        go_wp2_with fail;go_roundw;case rel=>exact⟨k+1,by omega,by go_num,wA HBk.out _,HE2.out⟩
        case measure=>simp[intOf];omega
    · have HE2:Hid (R=(wher.drop 0).all fun c=>inP bc c.col):=by unfold Hid;rw[hS.out,List.drop_of_length_le (by rw[HT1.out.1];omega)];rfl
      clear hS HE;go_wp2_with fail;go_loopw [6] (fun i wq=>∃(j:Nat),j≤m2∧i=.int .i64 j∧Below (w.heap.size+1+1) ((w.alloc (.cells #[.string tb,.string gl,.slice A2 n2 p2,.slice A3 n3 p3] 29)).alloc (.cells #[.string tb,.slice B1 m1 q1,.slice B2 m2 q2,.string ⟨#[]⟩,.bool ds,.int .i64 lm] 32)) wq∧Hid (R=(wher.drop j).all fun c=>inP bc c.col)) (fun i _=>m2-(intOf i).toNat);case atStart=>exact⟨0,Nat.zero_le _,rfl,HBk.out,HE2.out⟩
      case round =>
       obtain⟨j,hj,rfl,hb,hS2⟩:=hrel;clear px py HBw HBk hz3;have px:=(Blk.later (yC w _ _) hb (by omega)).cell;have py:=(Blk.later (vB w _ _) hb (by omega)).cell;have hz3:w.heap.size+1<wr.heap.size:=by have:=hb.size;simp at this;omega
       have HBw:=zh (HEnd.out _ hb);have HBk:=zh hb;clear hb;by_cases hltj:j<m2
       · obtain⟨b,o,rfl,hbl,hcell⟩:=(HT2.out.later HBw.out).2 (by omega);obtain⟨c0,c1,c2,k0,k1',k2',hr⟩:=hcell j hltj;clear hcell;have hl:j<wher.length:=by rw[HT2.out.1];exact hltj
         have HStp:=zh (zCf (fun c:CondD=>inP bc c.col) wher j hl);have HKp:=zh (fun W (hW:Below w.heap.size w W)=>yE A2 n2 p2 bc (wher.getD j default).col W (HS2.out.later hW) hn2);have hbd:=xD bc (wher.getD j default).col;rw[HS2.out.1]at hbd;have HI:Hid (inP bc (wher.getD j default).col=decide (0≤xA bc (wher.getD j default).col)):=rfl;have i1:(j:Int)<(m2:Int):=by omega
         have x2:=px 2;have y2:=py 2;simp at x2 y2;clear hl;generalize wher.getD j default=f at *;obtain⟨e0,e1,e2⟩:=hr;subst e0 e1 e2;generalize inP bc f.col=xx at *;generalize f.col=s at *;generalize xA bc s=y at *;go_wp2_with fail
         go_quiet (first | (go_at_call 90;refine zBp (HKp.out _ (by exact wA HBw.out _))))
         by_cases hy:y<0
         · have HE3:Hid (R=false):=by unfold Hid;rw[hS2.out,HStp.out,HI.out,decide_eq_false (show ¬0≤y by omega)];rfl
           go_wp2_with fail;go_ret;exact⟨zA0 HE3.out.symm,wA HBw.out _⟩
         · have HE3:Hid (R=(wher.drop (j+1)).all fun c=>inP bc c.col):=by unfold Hid;rw[hS2.out,HStp.out,HI.out,decide_eq_true (show 0≤y by omega)];rfl
           go_wp2_with fail;go_roundw;case rel=>exact⟨j+1,by omega,by go_num,wA HBk.out _,HE3.out⟩
           case measure=>simp[intOf];omega
       · have HE3:Hid (R=true):=by unfold Hid;rw[hS2.out,List.drop_of_length_le (by rw[HT2.out.1];omega)];rfl
         go_wp2_with fail;go_ret;exact⟨zA0 HE3.out.symm,HBw.out⟩
 · have hbe:=wJ ho;have hbe2:=zB0 ho;have hbn:=yJ ho;have HO2:Hid (decide (od=⟨#[]⟩)=false):=decide_eq_false ho;clear ho;go_wp2_with fail;refine(HKO.out _ HB2.out).mono ?_;rintro e w3 ⟨rfl,rfl⟩;by_cases hy:yo<0
   · have HE:Hid (R=false):=by unfold Hid;rw[HR1.out,HO2.out,HO.out,decide_eq_false (show ¬0≤yo by omega)];rfl
     go_wp2_with fail;go_ret;exact⟨zA0 HE.out.symm,HB2.out⟩
   have HE:Hid (R=(cols.all (inP bc)&&wher.all fun c=>inP bc c.col)):=by unfold Hid;rw[HR1.out,HO.out,decide_eq_true (show 0≤yo by omega)];simp
   clear HR1;go_wp2_with fail;go_loopw [5] (fun i wr=>∃(k:Nat),k≤m1∧i=.int .i64 k∧Below (w.heap.size+1+1) ((w.alloc (.cells #[.string tb,.string gl,.slice A2 n2 p2,.slice A3 n3 p3] 29)).alloc (.cells #[.string tb,.slice B1 m1 q1,.slice B2 m2 q2,.string od,.bool ds,.int .i64 lm] 32)) wr∧Hid (R=((cols.drop k).all (inP bc)&&wher.all fun c=>inP bc c.col))) (fun i _=>m1-(intOf i).toNat);case atStart=>exact⟨0,Nat.zero_le _,rfl,HSt.out,HE.out⟩
   case round =>
    obtain⟨k,hk,rfl,hb,hS⟩:=hrel;clear px py;have px:=(Blk.later (yC w _ _) hb (by omega)).cell;have py:=(Blk.later (vB w _ _) hb (by omega)).cell;have hz3:w.heap.size+1<wr.heap.size:=by have:=hb.size;simp at this;omega
    have HBw:=zh (HEnd.out _ hb);have HBk:=zh hb;clear hb;by_cases hlt:k<m1
    · obtain⟨b,o,rfl,hbl,hcell⟩:=(HT1.out.later HBw.out).2 (by omega);have hck:=hcell k hlt;clear hcell;have hl:k<cols.length:=by rw[HT1.out.1];exact hlt
      have HStp:=zh (zGJ (inP bc) cols k hl);have HKp:=zh (fun W (hW:Below w.heap.size w W)=>yE A2 n2 p2 bc (cols.getD k ByteArray.empty) W (HS2.out.later hW) hn2);have hbd:=xD bc (cols.getD k ByteArray.empty);rw[HS2.out.1]at hbd;have HI:Hid (inP bc (cols.getD k ByteArray.empty)=decide (0≤xA bc (cols.getD k ByteArray.empty))):=rfl;have i1:(k:Int)<(m1:Int):=by omega
      have x2:=px 2;have y1:=py 1;simp at x2 y1;clear hl;generalize inP bc (cols.getD k ByteArray.empty)=xx at *;generalize cols.getD k ByteArray.empty=s at *;generalize xA bc s=y at *;go_wp2_with fail
      go_quiet (first | (go_at_call 90;refine zBp (HKp.out _ (by exact wA HBw.out _))))
      by_cases hy:y<0
      · have HE2:Hid (R=false):=by unfold Hid;rw[hS.out,HStp.out,HI.out,decide_eq_false (show ¬0≤y by omega)];rfl
        go_wp2_with fail;go_ret;exact⟨zA0 HE2.out.symm,wA HBw.out _⟩
      · have HE2:Hid (R=((cols.drop (k+1)).all (inP bc)&&wher.all fun c=>inP bc c.col)):=by unfold Hid;rw[hS.out,HStp.out,HI.out,decide_eq_true (show 0≤y by omega)];rfl
        go_wp2_with fail;go_roundw;case rel=>exact⟨k+1,by omega,by go_num,wA HBk.out _,HE2.out⟩
        case measure=>simp[intOf];omega
    · have HE2:Hid (R=(wher.drop 0).all fun c=>inP bc c.col):=by unfold Hid;rw[hS.out,List.drop_of_length_le (by rw[HT1.out.1];omega)];rfl
      clear hS HE;go_wp2_with fail;go_loopw [6] (fun i wq=>∃(j:Nat),j≤m2∧i=.int .i64 j∧Below (w.heap.size+1+1) ((w.alloc (.cells #[.string tb,.string gl,.slice A2 n2 p2,.slice A3 n3 p3] 29)).alloc (.cells #[.string tb,.slice B1 m1 q1,.slice B2 m2 q2,.string od,.bool ds,.int .i64 lm] 32)) wq∧Hid (R=(wher.drop j).all fun c=>inP bc c.col)) (fun i _=>m2-(intOf i).toNat);case atStart=>exact⟨0,Nat.zero_le _,rfl,HBk.out,HE2.out⟩
      case round =>
       obtain⟨j,hj,rfl,hb,hS2⟩:=hrel;clear px py HBw HBk hz3;have px:=(Blk.later (yC w _ _) hb (by omega)).cell;have py:=(Blk.later (vB w _ _) hb (by omega)).cell;have hz3:w.heap.size+1<wr.heap.size:=by have:=hb.size;simp at this;omega
       have HBw:=zh (HEnd.out _ hb);have HBk:=zh hb;clear hb;by_cases hltj:j<m2
       · obtain⟨b,o,rfl,hbl,hcell⟩:=(HT2.out.later HBw.out).2 (by omega);obtain⟨c0,c1,c2,k0,k1',k2',hr⟩:=hcell j hltj;clear hcell;have hl:j<wher.length:=by rw[HT2.out.1];exact hltj
         have HStp:=zh (zCf (fun c:CondD=>inP bc c.col) wher j hl);have HKp:=zh (fun W (hW:Below w.heap.size w W)=>yE A2 n2 p2 bc (wher.getD j default).col W (HS2.out.later hW) hn2);have hbd:=xD bc (wher.getD j default).col;rw[HS2.out.1]at hbd;have HI:Hid (inP bc (wher.getD j default).col=decide (0≤xA bc (wher.getD j default).col)):=rfl;have i1:(j:Int)<(m2:Int):=by omega
         have x2:=px 2;have y2:=py 2;simp at x2 y2;clear hl;generalize wher.getD j default=f at *;obtain⟨e0,e1,e2⟩:=hr;subst e0 e1 e2;generalize inP bc f.col=xx at *;generalize f.col=s at *;generalize xA bc s=y at *;go_wp2_with fail
         go_quiet (first | (go_at_call 90;refine zBp (HKp.out _ (by exact wA HBw.out _))))
         by_cases hy:y<0
         · have HE3:Hid (R=false):=by unfold Hid;rw[hS2.out,HStp.out,HI.out,decide_eq_false (show ¬0≤y by omega)];rfl
           go_wp2_with fail;go_ret;exact⟨zA0 HE3.out.symm,wA HBw.out _⟩
         · have HE3:Hid (R=(wher.drop (j+1)).all fun c=>inP bc c.col):=by unfold Hid;rw[hS2.out,HStp.out,HI.out,decide_eq_true (show 0≤y by omega)];rfl
           go_wp2_with fail;go_roundw;case rel=>exact⟨j+1,by omega,by go_num,wA HBk.out _,HE3.out⟩
           case measure=>simp[intOf];omega
       · have HE3:Hid (R=true):=by unfold Hid;rw[hS2.out,List.drop_of_length_le (by rw[HT2.out.1];omega)];rfl
         go_wp2_with fail;go_ret;exact⟨zA0 HE3.out.symm,HBw.out⟩
end Go.Proofs.YtfpcjhajjejpdaaGreatDoor
namespace Go.Proofs.YtfpcjhajjejpdaaGreatDoor
open Go.RowKit
def zCI (p:PlanD) (c:CondD):Bool:=decide (c.op=1)&&(decide (c.col=p.col)&&(decide (c.val=p.val)&&decide (p.val≠⟨#[]⟩)))
def zBb (b:TableD) (q:QueryD) (p:PlanD):Bool :=
 if p.kind=3 then decide (p.col=⟨#[]⟩)&&decide (p.val=⟨#[]⟩)
 else if p.kind=1 then decide (p.col=b.cols.getD 0 ByteArray.empty)&&q.wher.any (zCI p)
 else if p.kind=2 then inP b.idx p.col&&q.wher.any (zCI p)
 else false
theorem zGI {α:Type} [Inhabited α] (p:α→Bool) (l:List α) (k:Nat) (h:k<l.length):(l.drop k).any p=(p (l.getD k default)||(l.drop (k+1)).any p):=by
 rw[List.drop_eq_getElem_cons h,List.any_cons,List.getD_eq_getElem?_getD,List.getElem?_eq_getElem h];rfl
theorem yF {a b:Int} (h:a≠b):(a==b)=false:=beq_eq_false_iff_ne.2 h
set_option maxRecDepth 100000 in
theorem zEm (b0 b1 b2 b3 c0 c1 c2 c3 c4 c5 e0 e1 e2:Value) (b:TableD) (d:QueryD) (p:PlanD) (w:World) (hb:TableR w w.heap.size b0 b1 b2 b3 b) (h:QueryR w w.heap.size c0 c1 c2 c3 c4 c5 d) (hp:PlanR w w.heap.size e0 e1 e2 p) (hbs:b.small) (hs:d.small) (hpos:0<b.cols.length) :
 Calls Tryz.prog 57 #[.agg #[b0,b1,b2,b3],.agg #[c0,c1,c2,c3,c4,c5],.agg #[e0,e1,e2]] w fun e w'=>e=.returned (.bool (zBb b d p))∧Below w.heap.size w w':=by
 obtain⟨rfl,rfl,⟨A2,n2,p2,rfl,s2,k2⟩,⟨A3,n3,p3,rfl,s3,k3⟩⟩:=hb;obtain⟨rfl,⟨B1,m1,q1,rfl,t1,l1⟩,⟨B2,m2,q2,rfl,t2,l2⟩,rfl,rfl,rfl⟩:=h;obtain⟨rfl,rfl,rfl⟩:=hp;have hn2:0<n2:=by rw[←s2.1];exact hpos
 have hn3:n3≤1048576:=by rw[←s3.1];exact hbs.2.2.2.1
 have hm2:m2≤1048576:=by rw[←t2.1];exact hs.2.2.1.1
 obtain⟨sb,so,e1,hsb,hsc⟩:=s2.2 hn2;subst e1;have hck:=hsc 0 hn2;rw[Nat.add_zero]at hck;have HKI:=zh (fun W (hW:Below w.heap.size w W)=>yE A3 n3 p3 b.idx p.col W (s3.later hW) hn3);have HI:Hid (inP b.idx p.col=decide (0≤xA b.idx p.col)):=rfl;have hbd:=xD b.idx p.col;rw[s3.1]at hbd;have HT2:=zh t2;clear hsc s2 s3 t1 t2 hs hbs hpos;have HR:Hid (zBb b d p=if p.kind=3 then decide (p.col=⟨#[]⟩)&&decide (p.val=⟨#[]⟩) else if p.kind=1 then decide (p.col=b.cols.getD 0 ByteArray.empty)&&d.wher.any (zCI p) else if p.kind=2 then inP b.idx p.col&&d.wher.any (zCI p) else false):=rfl;have HP:Hid (∀c,zCI p c=(decide (c.op=1)&&(decide (c.col=p.col)&&(decide (c.val=p.val)&&decide (p.val≠⟨#[]⟩))))):=fun _=>rfl;generalize zBb b d p=R at *;generalize inP b.idx p.col=xi at *;generalize xA b.idx p.col=yi at *;generalize b.name=nm at *;generalize b.glob=gl at *;generalize b.cols.getD 0 ByteArray.empty=key at *;generalize d.table=tb at *;generalize d.order=od at *;generalize d.desc=ds at *;generalize d.limit=lm at *;generalize d.wher=wher at *;generalize zCI p=HIT at *;generalize p.kind=kd at *;generalize p.col=pc at *;generalize p.val=pv at *;have HB0:=zh (yG w (.cells #[.string nm,.string gl,.slice (some ⟨sb,so,none⟩) n2 p2,.slice A3 n3 p3] 29) (.cells #[.string tb,.slice B1 m1 q1,.slice B2 m2 q2,.string od,.bool ds,.int .i64 lm] 32) (.cells #[.int .i64 kd,.string pc,.string pv] 49));have i0:(0:Int)<(n2:Int):=by omega
 have hck3:=(HB0.out.cell (p:=⟨sb,so,none⟩) hsb).trans hck;have z1:sb<w.heap.size+1:=by omega
 have z2:sb<w.heap.size+1+1:=by omega
 by_cases k3':kd=3
 · have HR3:Hid (R=(decide (pc=⟨#[]⟩)&&decide (pv=⟨#[]⟩))):=by unfold Hid;rw[HR.out,if_pos k3']
   subst k3';by_cases h1:pc=⟨#[]⟩
   · by_cases h2:pv=⟨#[]⟩
     · have HE:Hid (R=true):=by unfold Hid;rw[HR3.out,decide_eq_true h1,decide_eq_true h2];rfl
       subst h1 h2;go_enter Tryz.func57,Tryz.ntmps57;go_wp2_with fail;go_ret;exact⟨zA0 HE.out.symm,HB0.out⟩
     · have HE:Hid (R=false):=by unfold Hid;rw[HR3.out,decide_eq_false h2];simp
       have hbe:=zB0 h2;have hbe3:=wJ h2;subst h1;clear h2;go_enter Tryz.func57,Tryz.ntmps57;go_wp2_with fail;go_ret;exact⟨zA0 HE.out.symm,HB0.out⟩
   · have HE:Hid (R=false):=by unfold Hid;rw[HR3.out,decide_eq_false h1];rfl
     have hbe:=zB0 h1;have hbe3:=wJ h1;clear h1;go_enter Tryz.func57,Tryz.ntmps57;go_wp2_with fail;go_ret;exact⟨zA0 HE.out.symm,HB0.out⟩
 by_cases k1':kd=1
 · subst k1';have HR1:Hid (R=(decide (pc=key)&&wher.any HIT)):=by unfold Hid;rw[HR.out,if_neg (by omega),if_pos rfl]
   clear HR k3';go_enter Tryz.func57,Tryz.ntmps57;go_wp2_with fail;by_cases hk:pc=key
   case neg =>
    have HE:Hid (R=false):=by unfold Hid;rw[HR1.out,decide_eq_false hk];rfl
    have hbe:=yJ hk;have hbe2:=zB0 hk;clear hk
    go_quiet (fail)
    go_wp2_with fail;go_ret;exact⟨zA0 HE.out.symm,wA HB0.out _⟩
   subst hk;have HE:Hid (R=wher.any HIT):=by unfold Hid;rw[HR1.out];simp
   clear HR1
   go_quiet (fail)
   have HSt:Hid (∀q,Below (w.heap.size+1+1+1) (((w.alloc (.cells #[.string nm,.string gl,.slice (some ⟨sb,so,none⟩) n2 p2,.slice A3 n3 p3] 29)).alloc (.cells #[.string tb,.slice B1 m1 q1,.slice B2 m2 q2,.string od,.bool ds,.int .i64 lm] 32)).alloc (.cells #[.int .i64 1,.string pc,.string pv] 49)) ((((w.alloc (.cells #[.string nm,.string gl,.slice (some ⟨sb,so,none⟩) n2 p2,.slice A3 n3 p3] 29)).alloc (.cells #[.string tb,.slice B1 m1 q1,.slice B2 m2 q2,.string od,.bool ds,.int .i64 lm] 32)).alloc (.cells #[.int .i64 1,.string pc,.string pv] 49)).drewN q)):=fun q=>wA (Below.refl _ _) q;have HEnd:Hid (∀W,Below (w.heap.size+1+1+1) (((w.alloc (.cells #[.string nm,.string gl,.slice (some ⟨sb,so,none⟩) n2 p2,.slice A3 n3 p3] 29)).alloc (.cells #[.string tb,.slice B1 m1 q1,.slice B2 m2 q2,.string od,.bool ds,.int .i64 lm] 32)).alloc (.cells #[.int .i64 1,.string pc,.string pv] 49)) W→Below w.heap.size w W):=fun W hW=>HB0.out.trans (hW.mono (by omega));go_wp2_with fail;go_loopw [7] (fun i wr=>∃(j:Nat),j≤m2∧i=.int .i64 j∧Below (w.heap.size+1+1+1) (((w.alloc (.cells #[.string nm,.string gl,.slice (some ⟨sb,so,none⟩) n2 p2,.slice A3 n3 p3] 29)).alloc (.cells #[.string tb,.slice B1 m1 q1,.slice B2 m2 q2,.string od,.bool ds,.int .i64 lm] 32)).alloc (.cells #[.int .i64 1,.string pc,.string pv] 49)) wr∧Hid (R=(wher.drop j).any HIT)) (fun i _=>m2-(intOf i).toNat);case atStart=>exact⟨0,Nat.zero_le _,rfl,HSt.out _,HE.out⟩
   case round =>
    obtain⟨j,hj,rfl,hb,hS⟩:=hrel;have py:=(Blk.later (vG w _ _ _) hb (by omega)).cell;have pz:=(Blk.later (zG0 w _ _ _) hb (by omega)).cell;have hz3:w.heap.size+1+1<wr.heap.size:=by have:=hb.size;simp at this;omega
    have HBw:=zh (HEnd.out _ hb);have HBk:=zh hb;have HBn:=zh (fun o=>(HEnd.out _ hb).later (Below.new wr o));clear hb;by_cases hlt:j<m2
    · obtain⟨b,o,rfl,hbl,hcell⟩:=(HT2.out.later HBw.out).2 (by omega);obtain⟨c0,c1,c2,k0,k1',k2',hr⟩:=hcell j hlt;clear hcell;have hl:j<wher.length:=by rw[HT2.out.1];exact hlt
      have HStp:=zh (zGI HIT wher j hl);have HPc:=zh (HP.out (wher.getD j default));clear hl;generalize wher.getD j default=f at *;obtain⟨a0,a1,a2⟩:=hr;subst a0 a1 a2;generalize HIT f=X at *;generalize f.col=cc at *;generalize f.op=co at *;generalize f.val=cv at *;by_cases h1:co=1
      case neg =>
       have HE3:Hid (R=(wher.drop (j+1)).any HIT):=by unfold Hid;rw[hS.out,HStp.out,HPc.out,decide_eq_false h1];rfl
       have hbe:=yF h1;clear h1;go_wp2_with fail;go_roundw;case rel=>exact⟨j+1,by omega,by go_num,HBk.out.alloc (by omega) _,HE3.out⟩
       case measure=>simp[intOf];omega
      subst h1;by_cases h2:cc=pc
      case neg =>
       have HE3:Hid (R=(wher.drop (j+1)).any HIT):=by unfold Hid;rw[hS.out,HStp.out,HPc.out,decide_eq_false h2];simp
       have hbe:=zB0 h2;clear h2;go_wp2_with fail;go_roundw;case rel=>exact⟨j+1,by omega,by go_num,HBk.out.alloc (by omega) _,HE3.out⟩
       case measure=>simp[intOf];omega
      subst h2;by_cases h3:cv=pv
      case neg =>
       have HE3:Hid (R=(wher.drop (j+1)).any HIT):=by unfold Hid;rw[hS.out,HStp.out,HPc.out,decide_eq_false h3];simp
       have hbe:=zB0 h3;clear h3;go_wp2_with fail;go_roundw;case rel=>exact⟨j+1,by omega,by go_num,HBk.out.alloc (by omega) _,HE3.out⟩
       case measure=>simp[intOf];omega
      subst h3;by_cases h4:cv=⟨#[]⟩
      · subst h4;have HE3:Hid (R=(wher.drop (j+1)).any HIT):=by unfold Hid;rw[hS.out,HStp.out,HPc.out,decide_eq_false (show ¬((⟨#[]⟩:ByteArray)≠⟨#[]⟩) from fun h=>h rfl)];simp
        go_wp2_with fail;go_roundw;case rel=>exact⟨j+1,by omega,by go_num,HBk.out.alloc (by omega) _,HE3.out⟩
        case measure=>simp[intOf];omega
      · have HE3:Hid (R=true):=by unfold Hid;rw[hS.out,HStp.out,HPc.out,decide_eq_true h4];simp
        have hbe:=zB0 h4;have hbn:=yJ h4;have hbe3:=wJ h4;clear h4;go_wp2_with fail;go_ret;exact⟨zA0 HE3.out.symm,HBn.out _⟩
    · have HE3:Hid (R=false):=by unfold Hid;rw[hS.out,List.drop_of_length_le (by rw[HT2.out.1];omega)];rfl
      go_wp2_with fail;go_ret;exact⟨zA0 HE3.out.symm,HBw.out⟩
 by_cases k2':kd=2
 · subst k2';have HR1:Hid (R=(xi&&wher.any HIT)):=by unfold Hid;rw[HR.out,if_neg (by omega),if_neg (by omega),if_pos rfl]
   clear HR k3' k1';go_enter Tryz.func57,Tryz.ntmps57;go_wp2_with fail;refine(HKI.out _ HB0.out).mono ?_;rintro e w3 ⟨rfl,rfl⟩;by_cases hy:yi<0
   · have HE:Hid (R=false):=by unfold Hid;rw[HR1.out,HI.out,decide_eq_false (show ¬0≤yi by omega)];rfl
     go_wp2_with fail;go_ret;exact⟨zA0 HE.out.symm,HB0.out⟩
   have HE:Hid (R=wher.any HIT):=by unfold Hid;rw[HR1.out,HI.out,decide_eq_true (show 0≤yi by omega)];rfl
   clear HR1;have HSt:Hid (Below (w.heap.size+1+1+1) (((w.alloc (.cells #[.string nm,.string gl,.slice (some ⟨sb,so,none⟩) n2 p2,.slice A3 n3 p3] 29)).alloc (.cells #[.string tb,.slice B1 m1 q1,.slice B2 m2 q2,.string od,.bool ds,.int .i64 lm] 32)).alloc (.cells #[.int .i64 2,.string pc,.string pv] 49)) (((w.alloc (.cells #[.string nm,.string gl,.slice (some ⟨sb,so,none⟩) n2 p2,.slice A3 n3 p3] 29)).alloc (.cells #[.string tb,.slice B1 m1 q1,.slice B2 m2 q2,.string od,.bool ds,.int .i64 lm] 32)).alloc (.cells #[.int .i64 2,.string pc,.string pv] 49))):=Below.refl _ _;have HEnd:Hid (∀W,Below (w.heap.size+1+1+1) (((w.alloc (.cells #[.string nm,.string gl,.slice (some ⟨sb,so,none⟩) n2 p2,.slice A3 n3 p3] 29)).alloc (.cells #[.string tb,.slice B1 m1 q1,.slice B2 m2 q2,.string od,.bool ds,.int .i64 lm] 32)).alloc (.cells #[.int .i64 2,.string pc,.string pv] 49)) W→Below w.heap.size w W):=fun W hW=>HB0.out.trans (hW.mono (by omega));go_wp2_with fail;go_loopw [7] (fun i wr=>∃(j:Nat),j≤m2∧i=.int .i64 j∧Below (w.heap.size+1+1+1) (((w.alloc (.cells #[.string nm,.string gl,.slice (some ⟨sb,so,none⟩) n2 p2,.slice A3 n3 p3] 29)).alloc (.cells #[.string tb,.slice B1 m1 q1,.slice B2 m2 q2,.string od,.bool ds,.int .i64 lm] 32)).alloc (.cells #[.int .i64 2,.string pc,.string pv] 49)) wr∧Hid (R=(wher.drop j).any HIT)) (fun i _=>m2-(intOf i).toNat);case atStart=>exact⟨0,Nat.zero_le _,rfl,HSt.out,HE.out⟩
   case round =>
    obtain⟨j,hj,rfl,hb,hS⟩:=hrel;have py:=(Blk.later (vG w _ _ _) hb (by omega)).cell;have pz:=(Blk.later (zG0 w _ _ _) hb (by omega)).cell;have hz3:w.heap.size+1+1<wr.heap.size:=by have:=hb.size;simp at this;omega
    have HBw:=zh (HEnd.out _ hb);have HBk:=zh hb;have HBn:=zh (fun o=>(HEnd.out _ hb).later (Below.new wr o));clear hb;by_cases hlt:j<m2
    · obtain⟨b,o,rfl,hbl,hcell⟩:=(HT2.out.later HBw.out).2 (by omega);obtain⟨c0,c1,c2,k0,k1',k2',hr⟩:=hcell j hlt;clear hcell;have hl:j<wher.length:=by rw[HT2.out.1];exact hlt
      have HStp:=zh (zGI HIT wher j hl);have HPc:=zh (HP.out (wher.getD j default));clear hl;generalize wher.getD j default=f at *;obtain⟨a0,a1,a2⟩:=hr;subst a0 a1 a2;generalize HIT f=X at *;generalize f.col=cc at *;generalize f.op=co at *;generalize f.val=cv at *;by_cases h1:co=1
      case neg =>
       have HE3:Hid (R=(wher.drop (j+1)).any HIT):=by unfold Hid;rw[hS.out,HStp.out,HPc.out,decide_eq_false h1];rfl
       have hbe:=yF h1;clear h1;go_wp2_with fail;go_roundw;case rel=>exact⟨j+1,by omega,by go_num,HBk.out.alloc (by omega) _,HE3.out⟩
       case measure=>simp[intOf];omega
      subst h1;by_cases h2:cc=pc
      case neg =>
       have HE3:Hid (R=(wher.drop (j+1)).any HIT):=by unfold Hid;rw[hS.out,HStp.out,HPc.out,decide_eq_false h2];simp
       have hbe:=zB0 h2;clear h2;go_wp2_with fail;go_roundw;case rel=>exact⟨j+1,by omega,by go_num,HBk.out.alloc (by omega) _,HE3.out⟩
       case measure=>simp[intOf];omega
      subst h2;by_cases h3:cv=pv
      case neg =>
       have HE3:Hid (R=(wher.drop (j+1)).any HIT):=by unfold Hid;rw[hS.out,HStp.out,HPc.out,decide_eq_false h3];simp
       have hbe:=zB0 h3;clear h3;go_wp2_with fail;go_roundw;case rel=>exact⟨j+1,by omega,by go_num,HBk.out.alloc (by omega) _,HE3.out⟩
       case measure=>simp[intOf];omega
      subst h3;by_cases h4:cv=⟨#[]⟩
      · subst h4;have HE3:Hid (R=(wher.drop (j+1)).any HIT):=by unfold Hid;rw[hS.out,HStp.out,HPc.out,decide_eq_false (show ¬((⟨#[]⟩:ByteArray)≠⟨#[]⟩) from fun h=>h rfl)];simp
        go_wp2_with fail;go_roundw;case rel=>exact⟨j+1,by omega,by go_num,HBk.out.alloc (by omega) _,HE3.out⟩
        case measure=>simp[intOf];omega
      · have HE3:Hid (R=true):=by unfold Hid;rw[hS.out,HStp.out,HPc.out,decide_eq_true h4];simp
        have hbe:=zB0 h4;have hbn:=yJ h4;have hbe3:=wJ h4;clear h4;go_wp2_with fail;go_ret;exact⟨zA0 HE3.out.symm,HBn.out _⟩
    · have HE3:Hid (R=false):=by unfold Hid;rw[hS.out,List.drop_of_length_le (by rw[HT2.out.1];omega)];rfl
      go_wp2_with fail;go_ret;exact⟨zA0 HE3.out.symm,HBw.out⟩
 · have HE:Hid (R=false):=by unfold Hid;rw[HR.out,if_neg k3',if_neg k1',if_neg k2']
   have i1:=yF k3';have i2:=yF k1';have i3:=yF k2';clear HR k3' k1' k2';go_enter Tryz.func57,Tryz.ntmps57;go_wp2_with fail;go_ret;exact⟨zA0 HE.out.symm,HB0.out⟩
def vI (b:TableD) (q:QueryD) (p:PlanD):Bool:=xK b q&&zBb b q p
theorem zDb {b:TableD} {q:QueryD} (h:xK b q=true):0<b.cols.length:=by
 unfold xK xP at h;simp only[Bool.and_eq_true,decide_eq_true_eq]at h;have:=h.1.2.2.1;omega
theorem zAY (b0 b1 b2 b3 c0 c1 c2 c3 c4 c5 e0 e1 e2:Value) (b:TableD) (d:QueryD) (p:PlanD) (w:World) (hb:TableR w w.heap.size b0 b1 b2 b3 b) (h:QueryR w w.heap.size c0 c1 c2 c3 c4 c5 d) (hp:PlanR w w.heap.size e0 e1 e2 p) (hbs:b.small) (hs:d.small) :
 Calls Tryz.prog 16 #[.agg #[b0,b1,b2,b3],.agg #[c0,c1,c2,c3,c4,c5],.agg #[e0,e1,e2]] w fun e w'=>e=.returned (.bool (vI b d p))∧Below w.heap.size w w':=by
 have HK1:=zh (fun W (hW:Below w.heap.size w W)=>zDW b0 b1 b2 b3 c0 c1 c2 c3 c4 c5 b d W (hb.later hW) (h.later hW) hbs hs);have HK2:=zh (fun (hq:xK b d=true) W (hW:Below w.heap.size w W)=>zEm b0 b1 b2 b3 c0 c1 c2 c3 c4 c5 e0 e1 e2 b d p W (hb.later hW) (h.later hW) (hp.later hW) hbs hs (zDb hq));have HR:Hid (vI b d p=(xK b d&&zBb b d p)):=rfl;obtain⟨rfl,rfl,⟨A2,n2,p2,rfl,s2,k2⟩,⟨A3,n3,p3,rfl,s3,k3⟩⟩:=hb;obtain⟨rfl,⟨B1,m1,q1,rfl,t1,l1⟩,⟨B2,m2,q2,rfl,t2,l2⟩,rfl,rfl,rfl⟩:=h;obtain⟨rfl,rfl,rfl⟩:=hp;clear s2 s3 t1 t2 hs hbs;generalize vI b d p=R at *;generalize zBb b d p=y at *;generalize xK b d=x at *;go_enter Tryz.func16,Tryz.ntmps16;go_wp2_with fail;refine(HK1.out _ (by exact yG _ _ _ _)).mono ?_;rintro e w1 ⟨rfl,hb1⟩;have px:=(Blk.later (zK0 w _ _ _) hb1 (by simp;omega)).cell;have py:=(Blk.later (vG w _ _ _) hb1 (by simp)).cell;have pz:=(Blk.later (zG0 w _ _ _) hb1 (by simp)).cell;have HB:=zh ((yG w _ _ _).later hb1);have hz:=hb1.size;simp at hz;clear hb1;cases x
 · have HE:Hid (R=false):=by unfold Hid;rw[HR.out];rfl
   go_wp2_with fail;go_ret;exact⟨zA0 HE.out.symm,HB.out⟩
 · have HE:Hid (R=y):=by unfold Hid;rw[HR.out];rfl
   go_wp2_with fail;refine(HK2.out (by trivial) _ HB.out).mono ?_;rintro e w2 ⟨rfl,hb2⟩;have HB2:=zh (HB.out.later hb2);clear hb2;go_wp2_with fail;go_ret;exact⟨zA0 HE.out.symm,HB2.out⟩
end Go.Proofs.YtfpcjhajjejpdaaGreatDoor
