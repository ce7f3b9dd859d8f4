import Derived.Test.YtfpcjhajjejpdaaGreatDoorY24
import Derived.Test.YtfpcjhajjejpdaaGreatDoorY14
import Derived.Test.YtfpcjhajjejpdaaGreatDoorY07
set_option maxHeartbeats 4000000
open Go.Lib renaming hid → zh
namespace Go.Proofs.YtfpcjhajjejpdaaGreatDoor
open Go.RowKit
def zGq (od:ByteArray) (ds:Bool):Bool:=xB od||(decide (od=⟨#[]⟩)&&!ds)
def zJp (q:QueryD):Bool:=xB q.table&&(decide (q.cols.length≤5)&&(zBg q.cols&&(decide (q.wher.length≤3)&&(inB q.limit 0 24&&(!(q.cols.any fun s=>!xB s)&&(!(q.wher.any fun c=>!yH c)&&zGq q.order q.desc))))))
theorem zHT:xB ⟨#[]⟩=false:=by rfl
theorem zMZ (od:ByteArray) (ds:Bool):zGq od ds=(zCD od&&(!ds||decide (od≠⟨#[]⟩))):=by
 unfold zGq zCD;by_cases h:od=⟨#[]⟩
 · subst h;rw[zHT];cases ds <;> simp
 · rw[decide_eq_false h,decide_eq_true h];cases xB od <;> cases ds <;> rfl
theorem zEe {α:Type} (p:α→Bool) (l:List α):(!(l.any fun c=>!p c))=l.all p:=by
 induction l with
 | nil=>rfl
 | cons a r ih=>rw[List.any_cons,List.all_cons,←ih];cases p a <;> simp
theorem zLd (q:QueryD):zJp q=uQ q:=by
 unfold zJp uQ;rw[zKL,zEe yH q.wher,zMZ];generalize xB q.table=a;generalize decide (q.cols.length≤5)=b;generalize zBg q.cols=c;generalize decide (q.wher.length≤3)=d;generalize inB q.limit 0 24=e;generalize q.wher.all yH=g;generalize zCD q.order=o;generalize (!q.desc||decide (q.order≠⟨#[]⟩))=k;generalize (q.cols.any fun s=>!xB s)=f;cases a <;> cases b <;> cases c <;> cases d <;> cases e <;> cases f <;> cases g <;> cases o <;> cases k <;> rfl
set_option maxRecDepth 100000 in
theorem zIT (c0 c1 c2 c3 c4 c5:Value) (d:QueryD) (w:World) (h:QueryR w w.heap.size c0 c1 c2 c3 c4 c5 d) (hs:d.small) :
 Calls Tryz.prog 102 #[.agg #[c0,c1,c2,c3,c4,c5]] w fun e w'=>e=.returned (.bool (uQ d))∧Below w.heap.size w w':=by
 obtain⟨rfl,⟨A1,n1,p1,rfl,s1,k1⟩,⟨A2,n2,p2,rfl,s2,k2⟩,rfl,rfl,rfl⟩:=h;obtain⟨f0,⟨f1,f1'⟩,⟨f2,f2'⟩,f3⟩:=hs;have hn1:n1≤1048576:=by rw[←s1.1];exact f1
 have hn2:n2≤1048576:=by rw[←s2.1];exact f2
 have HR:Hid (uQ d=(xB d.table&&(decide (n1≤5)&&(zBg d.cols&&(decide (n2≤3)&&(inB d.limit 0 24&&(!(d.cols.any fun s=>!xB s)&&(!(d.wher.any fun c=>!yH c)&&zGq d.order d.desc)))))))):=by unfold Hid;rw[←zLd];unfold zJp;rw[s1.1,s2.1]
 have HK0:=zh (fun W=>xS d.table W f0);have HK3:=zh (fun W=>xS d.order W f3);have HK5:=zh (fun W=>zBL d.limit 0 24 W);have HKd:=zh (fun W (hW:Below w.heap.size w W)=>zDd A1 n1 p1 d.cols W (s1.later hW) hn1);have HKf:=zh (fun W (hW:Below w.heap.size w W)=>xV 160 #[] (fun s=>!xB s) A1 n1 p1 d.cols W (s1.later hW) hn1 (enters_of Tryz.func160 (by kernel_rfl) rfl) (fun s hs=>zHq s W (f1' s hs)));have HKg:=zh (fun W (hW:Below w.heap.size w W)=>zAm 161 #[] (fun c=>!yH c) A2 n2 p2 d.wher W (s2.later hW) hn2 (enters_of Tryz.func161 (by kernel_rfl) rfl) (fun c hc c0 c1 c2 W' _ hr=>zHp c0 c1 c2 c W' hr (f2' c hc)));have HL:Hid (zGq d.order d.desc=(xB d.order||(decide (d.order=⟨#[]⟩)&&!d.desc))):=rfl;clear s1 s2 f2' f1' f2 f1 f0 f3;generalize uQ d=R at *;generalize zGq d.order d.desc=xl at *;generalize xB d.table=x0 at *;generalize xB d.order=x3 at *;generalize inB d.limit 0 24=x5 at *;generalize zBg d.cols=xd at *;generalize (d.cols.any fun s=>!xB s)=xf at *;generalize (d.wher.any fun c=>!yH c)=xg at *;generalize d.table=tb at *;generalize d.order=od at *;generalize d.desc=ds at *;generalize d.limit=lm at *;have HB0:=zh (Below.new w (.cells #[.string tb,.slice A1 n1 p1,.slice A2 n2 p2,.string od,.bool ds,.int .i64 lm] 32));go_enter Tryz.func102,Tryz.ntmps102;go_wp2_with fail;refine(HK0.out _).mono ?_;rintro e w1 ⟨rfl,rfl⟩;cases x0
 · have HE:Hid (R=false):=by unfold Hid;rw[HR.out];rfl
   go_wp2_with fail;go_ret;exact⟨zA0 HE.out.symm,HB0.out⟩
 by_cases a1:5<n1
 · have HE:Hid (R=false):=by unfold Hid;rw[HR.out,decide_eq_false (show ¬n1≤5 by omega)];rfl
   go_wp2_with fail;go_ret;exact⟨zA0 HE.out.symm,HB0.out⟩
 have HR1:Hid (R=(xd&&(decide (n2≤3)&&(x5&&(!xf&&(!xg&&xl)))))):=by unfold Hid;rw[HR.out,decide_eq_true (show n1≤5 by omega)];rfl
 clear HR;go_wp2_with fail;refine(HKd.out _ HB0.out).mono ?_;rintro e w1 ⟨rfl,hb1⟩;have px:=(Blk.later (heap_alloc_new w _) hb1 (by simp)).cell;have hz1:w.heap.size<w1.heap.size:=by have:=hb1.size;simp at this;omega
 have HB1:=zh (HB0.out.later hb1);have HBB:=zh hb1;clear hb1;cases xd
 · have HE:Hid (R=false):=by unfold Hid;rw[HR1.out];rfl
   go_wp2_with fail;go_ret;exact⟨zA0 HE.out.symm,HB1.out⟩
 by_cases a2:3<n2
 · have HE:Hid (R=false):=by unfold Hid;rw[HR1.out,decide_eq_false (show ¬n2≤3 by omega)];rfl
   go_wp2_with fail;go_ret;exact⟨zA0 HE.out.symm,HB1.out⟩
 have HR2:Hid (R=(x5&&(!xf&&(!xg&&xl)))):=by unfold Hid;rw[HR1.out,decide_eq_true (show n2≤3 by omega)];rfl
 clear HR1;go_wp2_with fail;refine(HK5.out _).mono ?_;rintro e w2 ⟨rfl,rfl⟩;cases x5
 · have HE:Hid (R=false):=by unfold Hid;rw[HR2.out];rfl
   go_wp2_with fail;go_ret;exact⟨zA0 HE.out.symm,HB1.out⟩
 go_wp2_with fail;refine(HKf.out _ HB1.out).mono ?_;rintro e w2 ⟨rfl,rfl⟩;cases xf
 case true =>
  have HE:Hid (R=false):=by unfold Hid;rw[HR2.out];rfl
  go_wp2_with fail;go_ret;exact⟨zA0 HE.out.symm,HB1.out⟩
 go_wp2_with fail;refine(HKg.out _ HB1.out).mono ?_;rintro e w2 ⟨rfl,hb2⟩;have hb3:=HBB.out.trans (hb2.mono (by simp;omega));clear px;have px:=(Blk.later (heap_alloc_new w _) hb3 (by simp)).cell;have hz2:w.heap.size<w2.heap.size:=by have:=hb3.size;simp at this;omega
 have HB2:=zh (HB1.out.later hb2);clear hb2 hb3;cases xg
 case true =>
  have HE:Hid (R=false):=by unfold Hid;rw[HR2.out];rfl
  go_wp2_with fail;go_ret;exact⟨zA0 HE.out.symm,HB2.out⟩
 have HE:Hid (R=(x3||(decide (od=⟨#[]⟩)&&!ds))):=by unfold Hid;rw[HR2.out,←HL.out];rfl
 go_wp2_with fail;refine(HK3.out _).mono ?_;rintro e w3 ⟨rfl,rfl⟩;cases x3
 case true =>
  have HE2:Hid (R=true):=by unfold Hid;rw[HE.out];rfl
  go_wp2_with fail;go_ret;exact⟨zA0 HE2.out.symm,HB2.out⟩
 by_cases ho:od=⟨#[]⟩
 · subst ho;have HE2:Hid (R=!ds):=by unfold Hid;rw[HE.out];simp
   cases ds
   all_goals
    go_wp2_with fail;go_ret;exact⟨zA0 HE2.out.symm,HB2.out⟩
 · have HE2:Hid (R=false):=by unfold Hid;rw[HE.out,decide_eq_false ho];rfl
   have hbe:=zB0 ho;have hbe3:=wJ ho;clear ho;go_wp2_with fail;go_ret;exact⟨zA0 HE2.out.symm,HB2.out⟩
end Go.Proofs.YtfpcjhajjejpdaaGreatDoor
namespace Go.Proofs.YtfpcjhajjejpdaaGreatDoor
open Go.RowKit
theorem zKl (A:Option Addr) (n c:Nat) (ss:List ByteArray) (w:World) (h:Strs w w.heap.size A n ss) (hn:n≤1048576) :
 Calls Tryz.prog 103 #[.slice A n c] w fun e w'=>∃v,e=.returned v∧Own.SubO w' w.heap.size v ss∧Below w.heap.size w w':=by
 rcases Nat.eq_zero_or_pos n with h0 | h0
 · subst h0;obtain rfl:ss=[]:=List.eq_nil_of_length_eq_zero h.1
   cases A with
   | none=>exact(Tryz.slices_Clone_string_nil 0 c w).mono fun e w' ⟨he,hw⟩=>⟨_,he,by subst hw;exact Own.sub_nil _ _,by subst hw;exact Below.refl _ _⟩
   | some a=>exact(Tryz.slices_Clone_string_zero a c w).mono fun e w' ⟨v,he,ho,_,hb⟩=>⟨v,he,ho,hb⟩
 · obtain⟨b,o,rfl,hb,hc⟩:=h.2 h0;have hl:=h.1;refine(Tryz.slices_Clone_string b o n c ss w (by omega) (by omega) (fun j hj=>hc j (by omega))).mono fun e w' ⟨v,he,ho,_,hb⟩=>⟨v,he,?_,hb⟩;rw[List.take_of_length_le (by omega),←hl]at ho;exact ho
theorem zCh (g:Nat) (A:Option Addr) (n c:Nat) (bc:List ByteArray) (s:ByteArray) (W:World) (hc:W.cell? ⟨g,2,none⟩=some (.slice A n c)) (h:Strs W W.heap.size A n bc) (hn:n≤1048576) :
 Calls Tryz.prog 105 #[.string s,.pointer (some ⟨g,0,none⟩)] W fun e w'=>e=.returned (.bool (!inP bc s))∧Below W.heap.size W w':=by
 have HK:=zh (zAX A n c bc s W h hn);have HI:Hid (inP bc s=decide (0≤xA bc s)):=rfl;clear h;rw[←HI.out]at HK;generalize inP bc s=x at *;go_enter Tryz.func105,Tryz.ntmps105;go_wp2_with fail;refine HK.out.mono ?_;rintro e w1 ⟨rfl,rfl⟩;go_wp2_with fail;go_ret;exact⟨rfl,Below.refl _ _⟩
def zHA (d:QueryD):List ByteArray:=(d.cols++d.wher.map CondD.col)++(if d.order=⟨#[]⟩ then [] else [d.order])
theorem zMH (bc:List ByteArray) (d:QueryD):(!((zHA d).any fun s=>!inP bc s))=((decide (d.order=⟨#[]⟩)||inP bc d.order)&&(d.cols.all (inP bc)&&d.wher.all fun c=>inP bc c.col)):=by
 rw[zEe];unfold zHA;rw[List.all_append,List.all_append,List.all_map];have hx:(d.wher.all (inP bc ∘ CondD.col))=d.wher.all fun c=>inP bc c.col:=rfl;rw[hx];by_cases h:d.order=⟨#[]⟩
 · rw[if_pos h,decide_eq_true h];simp
 · rw[if_neg h,decide_eq_false h];simp only[List.all_cons,List.all_nil,Bool.and_true,Bool.false_or];rw[Bool.and_comm]
set_option maxRecDepth 100000 in
theorem zAW (b0 b1 b2 b3 c0 c1 c2 c3 c4 c5:Value) (b:TableD) (d:QueryD) (w:World) (hb:TableR w w.heap.size b0 b1 b2 b3 b) (h:QueryR w w.heap.size c0 c1 c2 c3 c4 c5 d) (hbs:b.small) (hs:d.small) :
 Calls Tryz.prog 44 #[.agg #[b0,b1,b2,b3],.agg #[c0,c1,c2,c3,c4,c5]] w fun e w'=>e=.returned (.bool (xK b d))∧Below w.heap.size w w':=by
 obtain⟨i0,hi,hz0,hzs1,hzs2⟩:=info_parts zAO;have HKT:=zh (fun W (hW:Below w.heap.size w W)=>zIQ b0 b1 b2 b3 b W (hb.later hW) hbs);have HKQ:=zh (fun W (hW:Below w.heap.size w W)=>zIT c0 c1 c2 c3 c4 c5 d W (h.later hW) hs);have HR:Hid (xK b d=(xP b&&(uQ d&&(decide (d.table=b.name)&&!((zHA d).any fun s=>!inP b.cols s))))):=by unfold Hid;rw[zMH];rfl
 have HU:Hid (zHA d=(d.cols++d.wher.map CondD.col)++(if d.order=⟨#[]⟩ then [] else [d.order])):=rfl;obtain⟨rfl,rfl,⟨A2,n2,p2,rfl,s2,k2⟩,⟨A3,n3,p3,rfl,s3,k3⟩⟩:=hb;obtain⟨rfl,⟨B1,m1,q1,rfl,t1,l1⟩,⟨B2,m2,q2,rfl,t2,l2⟩,rfl,rfl,rfl⟩:=h;have hn2:n2≤1048576:=by rw[←s2.1];exact hbs.2.2.1.1
 have hm1:m1≤1048576:=by rw[←t1.1];exact hs.2.1.1
 have hm2:m2≤1048576:=by rw[←t2.1];exact hs.2.2.1.1
 have HS2:=zh s2;have HT2:=zh t2;have HLc:=zh t1.1;have HKC:=zh (fun W (hW:Below w.heap.size w W)=>zKl B1 m1 q1 d.cols W (t1.later hW) hm1);have HQ5:Hid (uQ d=true→m1≤5∧m2≤3):=fun hq=>by unfold uQ at hq;simp only[Bool.and_eq_true,decide_eq_true_eq]at hq;have e1:=t1.1;have e2:=t2.1;omega
 clear s2 s3 t1 t2 hs hbs;generalize xK b d=R at *;generalize xP b=x0 at *;generalize uQ d=x1 at *;generalize zHA d=US at *;generalize b.name=nm at *;generalize b.glob=gl at *;generalize b.cols=bc at *;generalize d.table=tb at *;generalize d.order=od at *;generalize d.desc=ds at *;generalize d.limit=lm at *;generalize d.cols=cols at *;generalize d.wher=wher at *;have HB0:=zh ((Below.new w (.cells #[.string nm,.string gl,.slice A2 n2 p2,.slice A3 n3 p3] 29)).later (Below.new _ (.cells #[.string tb,.slice B1 m1 q1,.slice B2 m2 q2,.string od,.bool ds,.int .i64 lm] 32)));go_enter Tryz.func44,Tryz.ntmps44;go_wp2_with fail;refine(HKT.out _ HB0.out).mono ?_;rintro e w1 ⟨rfl,hb1⟩;have HB1:=zh (HB0.out.later hb1);have px:=(Blk.later (yC w _ _) hb1 (by simp;omega)).cell;have py:=(Blk.later (vB w _ _) hb1 (by simp)).cell;have hz1:w.heap.size+1<w1.heap.size:=by have:=hb1.size;simp at this;omega
 cases x0
 · have HE:Hid (R=false):=by unfold Hid;rw[HR.out];rfl
   clear hb1;go_wp2_with fail;go_ret;exact⟨zA0 HE.out.symm,HB1.out⟩
 have HBB:=zh hb1;clear hb1;go_wp2_with fail;refine(HKQ.out _ HB1.out).mono ?_;rintro e w2 ⟨rfl,hb2'⟩;have hb2:=HBB.out.trans (hb2'.mono (by simp;omega));have HB2:=zh (HB1.out.later hb2');clear px py hb2';have px:=(Blk.later (yC w _ _) hb2 (by simp;omega)).cell;have py:=(Blk.later (vB w _ _) hb2 (by simp)).cell;have hz2:w.heap.size+1<w2.heap.size:=by have:=hb2.size;simp at this;omega
 have HBB2:=zh hb2;clear hb2;cases x1
 · have HE:Hid (R=false):=by unfold Hid;rw[HR.out];rfl
   go_wp2_with fail;go_ret;exact⟨zA0 HE.out.symm,HB2.out⟩
 have hq5:=HQ5.out (by trivial);by_cases hnm:tb=nm
 case neg =>
  have HE:Hid (R=false):=by unfold Hid;rw[HR.out,decide_eq_false hnm];rfl
  have hbn:=yJ hnm;have hbe:=zB0 hnm;clear hnm;go_wp2_with fail;go_ret;exact⟨zA0 HE.out.symm,HB2.out⟩
 subst hnm;have HR1:Hid (R=!(US.any fun s=>!inP bc s)):=by unfold Hid;rw[HR.out];simp
 clear HR;go_wp2_with fail;refine(HKC.out _ HB2.out).mono ?_;rintro e w3 ⟨v,rfl,hown,hb3⟩;obtain⟨A5,cap5,rfl,_⟩:=Own.own_slice hown;have hO3:=Own.own_base hown (show w.heap.size+1+1≤w2.heap.size by omega);have HO3:=zh hO3;have hb4:=HBB2.out.trans (hb3.mono (by simp;omega));have HSt:Hid (Below (w.heap.size+1+1) ((w.alloc (.cells #[.string tb,.string gl,.slice A2 n2 p2,.slice A3 n3 p3] 29)).alloc (.cells #[.string tb,.slice B1 m1 q1,.slice B2 m2 q2,.string od,.bool ds,.int .i64 lm] 32)) w3):=by have:=hb4;simp only[World.size_alloc]at this;exact this
 clear px py hown hO3;have px:=(Blk.later (yC w _ _) hb4 (by simp;omega)).cell;have py:=(Blk.later (vB w _ _) hb4 (by simp)).cell;have hz3:w.heap.size+1<w3.heap.size:=by have:=hb4.size;simp at this;omega
 clear hb3 hb4;go_wp2_with fail;go_loopw [5,29] (fun v i wr=>∃(j:Nat),j≤m2∧i=.int .i64 j∧wr.ownsRow (w.heap.size+1+1) 9 1 v (cols++(wher.take j).map CondD.col).length ((cols++(wher.take j).map CondD.col).map Value.string)∧Below (w.heap.size+1+1) ((w.alloc (.cells #[.string tb,.string gl,.slice A2 n2 p2,.slice A3 n3 p3] 29)).alloc (.cells #[.string tb,.slice B1 m1 q1,.slice B2 m2 q2,.string od,.bool ds,.int .i64 lm] 32)) wr) (fun _ i _=>m2-(intOf i).toNat);case atStart=>exact⟨0,Nat.zero_le _,rfl,by simpa using HO3.out,HSt.out⟩
 case round =>
  obtain⟨j,hj,rfl,hown,hb⟩:=hrel;clear px py hz3;have px:=(Blk.later (yC w _ _) hb (by omega)).cell;have py:=(Blk.later (vB w _ _) hb (by omega)).cell;have hz3:w.heap.size+1<wr.heap.size:=by have:=hb.size;simp at this;omega
  have HBk:=zh hb;have HBw:=zh (HB0.out.trans (hb.mono (by omega)));have HO:=zh hown;clear hb hown;by_cases hlt:j<m2
  · obtain⟨bb,o,rfl,hbB,hc'⟩:=(HT2.out.later HBw.out).2 (by omega);obtain⟨d0,d1,d2,j0,j1,j2,hr⟩:=hc' j hlt;clear hc';have hl1:j<wher.length:=by rw[HT2.out.1];exact hlt
    have HTS:Hid (cols++(wher.take (j+1)).map CondD.col=(cols++(wher.take j).map CondD.col)++[(wher.getD j default).col]):=by unfold Hid;rw[List.take_succ_eq_append_getElem hl1,List.map_append,List.append_assoc,List.getD_eq_getElem?_getD,List.getElem?_eq_getElem hl1];rfl
    have hml:(cols++(wher.take j).map CondD.col).length≤8:=by rw[List.length_append,List.length_map,List.length_take,HLc.out];omega
    clear hl1;generalize wher.getD j default=f at *;generalize cols++(wher.take j).map CondD.col=ys at *;obtain⟨e0,e1,e2⟩:=hr;subst e0 e1 e2;generalize f.col=fc at *;generalize f.op=fo at *;generalize f.val=fv at *;have hrow:Hid (∀o o',((wr.alloc o).alloc o').ownsRow (w.heap.size+1+1) 9 1 u5 ys.length (ys.map Value.string)):=fun o o'=>Own.own_later (Own.own_later HO.out (Below.new _ _)) (Below.new _ _);go_wp2_with (at_builtin;refine wpList_append_own _ rfl (.tmp 33) (.tmp 36) 27 rfl (w.heap.size+1+1) 9 i0 _ 1 16 Tryz.underlying27 hi hz0 hzs1 hzs2 rfl (by decide) _ ys.length _ rfl (hrow.out _ _) ⟨_,0,none⟩ 1 1 [.string fc] rfl rfl ?c1 ?c2 ?c3 ?c4 ?c5 ?_);all_goals try (first | exact wC _ #[.string fc] _ _ (by simp) | (simp[Value.oneCell'];done) | (unfold maxLen;omega) | omega | (simp;omega))
    intro v1 w4 hown1 hg1 _;have HO4:Hid (w4.ownsRow (w.heap.size+1+1) 9 1 v1 (cols++(wher.take (j+1)).map CondD.col).length ((cols++(wher.take (j+1)).map CondD.col).map Value.string)):=by unfold Hid;rw[HTS.out,List.length_append,List.length_singleton,List.map_append];exact hown1
    have HB4:=zh (((HBk.out.alloc (by omega) _).alloc (by first | omega | (simp;omega)) _).grown hg1 (by first | omega | (simp;omega)) (fun g hg'=>((hrow.out (.cells #[] 0) (.cells #[] 0)).lt g hg').1));clear hown1 hg1;go_wp2_with fail;go_roundw;case rel=>exact⟨j+1,by omega,by go_num,HO4.out,HB4.out⟩
    case measure=>simp[intOf];omega
  · obtain rfl:j=m2:=by omega
    have HYS:Hid (cols++(wher.take j).map CondD.col=cols++wher.map CondD.col):=by unfold Hid;rw[List.take_of_length_le (by rw[HT2.out.1];omega)]
    have hml:(cols++(wher.take j).map CondD.col).length≤8:=by rw[List.length_append,List.length_map,List.length_take,HLc.out];omega
    rw[HYS.out]at HO hml;generalize cols++wher.map CondD.col=ys at *;by_cases ho:od=⟨#[]⟩
    · have HUS:Hid (US=ys):=by unfold Hid;rw[HU.out,if_pos ho,List.append_nil]
      have hlu:US.length≤8:=by rw[HUS.out];exact hml
      have hu:=HUS.out;subst hu;subst ho;obtain⟨A7,cap7,hv7,_,hS7⟩:=Own.SubO.strs HO.out;subst hv7;have HKL:=zh (fun W (hW:Below w.heap.size w W) (hc:W.cell? ⟨w.heap.size,2,none⟩=some (.slice A2 n2 p2)) A c (hs:Strs W W.heap.size A US.length US)=>vX 105 #[.pointer (some ⟨w.heap.size,0,none⟩)] (fun s=>!inP bc s) A US.length c US W hs (by omega) (enters_of Tryz.func105 (by kernel_rfl) rfl) (fun s _ W' hW'=>zCh w.heap.size A2 n2 p2 bc s W' ((hW'.cell (p:=⟨w.heap.size,2,none⟩) (by have:=World.block_lt_of_cell? W ⟨w.heap.size,2,none⟩ hc;exact this)).trans hc) ((HS2.out.later hW).later hW') hn2));generalize (US.any fun s=>!inP bc s)=X at *;go_wp2_with fail;refine(HKL.out _ HBw.out (px 2) _ _ hS7).mono ?_;rintro e w5 ⟨rfl,hb5⟩;have HB5:=zh (Below.later HBw.out hb5);clear hb5;go_wp2_with fail;go_ret;exact⟨zA0 HR1.out.symm,HB5.out⟩
    · have HUS:Hid (US=ys++[od]):=by unfold Hid;rw[HU.out,if_neg ho]
      have hbe:=zB0 ho;have hbn:=yJ ho;have hbe3:=wJ ho;clear ho;have hrow:Hid (∀o,(wr.alloc o).ownsRow (w.heap.size+1+1) 9 1 u5 ys.length (ys.map Value.string)):=fun o=>Own.own_later HO.out (Below.new _ _);go_wp2_with (at_builtin;refine wpList_append_own _ rfl (.tmp 42) (.tmp 45) 27 rfl (w.heap.size+1+1) 9 i0 _ 1 16 Tryz.underlying27 hi hz0 hzs1 hzs2 rfl (by decide) _ ys.length _ rfl (hrow.out _) ⟨_,0,none⟩ 1 1 [.string od] rfl rfl ?k1 ?k2 ?k3 ?k4 ?k5 ?_);all_goals try (first | exact wC _ #[.string od] _ _ (by simp) | (simp[Value.oneCell'];done) | (unfold maxLen;omega) | omega | (simp;omega))
      intro v1 w4 hown1 hg1 _;have HO4:Hid (w4.ownsRow (w.heap.size+1+1) 9 1 v1 US.length (US.map Value.string)):=by unfold Hid;rw[HUS.out,List.length_append,List.length_singleton,List.map_append];exact hown1
      have hB4:=(HBk.out.alloc (by omega) _).grown hg1 (by first | omega | (simp;omega)) (fun g hg'=>((hrow.out (.cells #[] 0)).lt g hg').1);have HB4:=zh (HB0.out.trans (hB4.mono (by omega)));have px4:=(Blk.later (yC w _ _) hB4 (by omega)).cell;have hlu:US.length≤9:=by rw[HUS.out,List.length_append,List.length_singleton];omega
      obtain⟨A7,cap7,hv7,_,hS7⟩:=Own.SubO.strs HO4.out;subst hv7;clear hown1 hg1 hB4;have HKL:=zh (fun W (hW:Below w.heap.size w W) (hc:W.cell? ⟨w.heap.size,2,none⟩=some (.slice A2 n2 p2)) A c (hs:Strs W W.heap.size A US.length US)=>vX 105 #[.pointer (some ⟨w.heap.size,0,none⟩)] (fun s=>!inP bc s) A US.length c US W hs (by omega) (enters_of Tryz.func105 (by kernel_rfl) rfl) (fun s _ W' hW'=>zCh w.heap.size A2 n2 p2 bc s W' ((hW'.cell (p:=⟨w.heap.size,2,none⟩) (by have:=World.block_lt_of_cell? W ⟨w.heap.size,2,none⟩ hc;exact this)).trans hc) ((HS2.out.later hW).later hW') hn2));generalize (US.any fun s=>!inP bc s)=X at *;go_wp2_with fail;refine(HKL.out _ HB4.out (px4 2) _ _ hS7).mono ?_;rintro e w5 ⟨rfl,hb5⟩;have HB5:=zh (Below.later HB4.out hb5);clear hb5;go_wp2_with fail;go_ret;exact⟨zA0 HR1.out.symm,HB5.out⟩
end Go.Proofs.YtfpcjhajjejpdaaGreatDoor
namespace Go.Proofs.YtfpcjhajjejpdaaGreatDoor
open Go.RowKit
def zBF (a b:CondD):Bool:=decide (a.col=b.col)&&(decide (a.op=b.op)&&decide (a.val=b.val))
set_option maxRecDepth 100000 in
theorem zFX (A:Option Addr) (n c:Nat) (fs:List CondD) (x:CondD) (w:World) (h:Conds w w.heap.size A n fs) (hn:n≤1048576) :
 Calls Tryz.prog 140 #[.slice A n c,.agg #[.string x.col,.int .i64 x.op,.string x.val]] w fun e w'=>e=.returned (.int .i64 (vJ (zBF x) fs 0))∧Below w.heap.size w w':=by
 have Hh:=zh h;have Hlen:=zh h.1;clear h;have HB0:=zh (fun q=>wA (Below.new w (.cells #[.string x.col,.int .i64 x.op,.string x.val] 44)) q);have HP:Hid (∀d,zBF x d=(decide (x.col=d.col)&&(decide (x.op=d.op)&&decide (x.val=d.val)))):=fun _=>rfl;generalize zBF x=P at *;generalize x.col=xc at *;generalize x.op=xo at *;generalize x.val=xv at *;go_enter Tryz.func140,Tryz.ntmps140;go_wp2_with fail;go_loopw [8] (fun i wr=>∃k q:Nat,k≤n∧i=.int .i64 k∧wr=(w.alloc (.cells #[.string xc,.int .i64 xo,.string xv] 44)).drewN q∧Hid (vJ P fs 0=vJ P (fs.drop k) k)) (fun i _=>n-(intOf i).toNat);case atStart=>exact⟨0,0,Nat.zero_le _,rfl,rfl,rfl⟩
 case round =>
  obtain⟨k,q,hk,rfl,rfl,hS⟩:=hrel;by_cases hlt:k<n
  · obtain⟨b,o,rfl,hbB,hcell⟩:=Hh.out.2 (by omega);obtain⟨c0,c1,c2,k0,k1,k2,hr⟩:=hcell k hlt;clear hcell;have hl:k<fs.length:=by rw[Hlen.out];exact hlt
    have HS:=zh (zAt P fs k hl);have HPd:=zh (HP.out (fs.getD k default));have i1:(k:Int)<(n:Int):=by omega
    clear hl;generalize fs.getD k default=f at *;obtain⟨a0,a1,a2⟩:=hr;subst a0 a1 a2;generalize P f=X at *;generalize f.col=fc at *;generalize f.op=fo at *;generalize f.val=fv at *;by_cases h1:xc=fc
    case neg =>
     have HE:Hid (vJ P fs 0=vJ P (fs.drop (k+1)) (k+1)):=by unfold Hid;rw[hS.out,HS.out,HPd.out,decide_eq_false h1];rfl
     have hbe:=zB0 h1;clear h1;go_wp2_with fail
     go_quiet (fail)
     go_wp2_with fail;go_roundw;case rel=>exact⟨k+1,_,by omega,by go_num,rfl,HE.out⟩
     case measure=>simp[intOf];omega
    subst h1;by_cases h2:xo=fo
    case neg =>
     have HE:Hid (vJ P fs 0=vJ P (fs.drop (k+1)) (k+1)):=by unfold Hid;rw[hS.out,HS.out,HPd.out,decide_eq_false h2];simp
     have hbe:=yF h2;clear h2;go_wp2_with fail
     go_quiet (fail)
     go_wp2_with fail;go_roundw;case rel=>exact⟨k+1,_,by omega,by go_num,rfl,HE.out⟩
     case measure=>simp[intOf];omega
    subst h2;by_cases h3:xv=fv
    case neg =>
     have HE:Hid (vJ P fs 0=vJ P (fs.drop (k+1)) (k+1)):=by unfold Hid;rw[hS.out,HS.out,HPd.out,decide_eq_false h3];simp
     have hbe:=zB0 h3;clear h3;go_wp2_with fail
     go_quiet (fail)
     go_wp2_with fail;go_roundw;case rel=>exact⟨k+1,_,by omega,by go_num,rfl,HE.out⟩
     case measure=>simp[intOf];omega
    subst h3;have HE:Hid (vJ P fs 0=k):=by unfold Hid;rw[hS.out,HS.out,HPd.out];simp
    go_wp2_with fail
    go_quiet (fail)
    go_wp2_with fail;go_ret;exact⟨zC0 HE.out.symm,by first | exact HB0.out _ | exact wA (HB0.out _) _⟩
  · have HE:Hid (vJ P fs 0=-1):=by unfold Hid;rw[hS.out,List.drop_of_length_le (by rw[Hlen.out];omega)];rfl
    go_wp2_with fail;go_ret;exact⟨zC0 HE.out.symm,HB0.out _⟩
theorem zDJ (A:Option Addr) (n c:Nat) (fs:List CondD) (x:CondD) (w:World) (h:Conds w w.heap.size A n fs) (hn:n≤1048576) :
 Calls Tryz.prog 71 #[.slice A n c,.agg #[.string x.col,.int .i64 x.op,.string x.val]] w fun e w'=>e=.returned (.bool (fs.any (zBF x)))∧Below w.heap.size w w':=by
 have HK:=zh (fun o=>zFX A n c fs x (w.alloc o) (h.later (Below.new _ _)) hn);have hE:=zBZ (zBF x) fs 0;clear h;generalize fs.any (zBF x)=R at *;generalize vJ (zBF x) fs 0=y at *;have HE:=zh hE;clear hE;go_enter Tryz.func71,Tryz.ntmps71;go_wp2_with fail;refine(HK.out _).mono ?_;rintro e w' ⟨rfl,hb1⟩;have HB1:=zh ((Below.new w _).later hb1);clear hb1;go_wp2_with fail;go_ret;exact⟨zA0 HE.out,HB1.out⟩
theorem zNK (p:PlanD) (l:List CondD):(decide (p.val≠⟨#[]⟩)&&l.any (zBF ⟨p.col,1,p.val⟩))=l.any (zCI p):=by
 induction l with
 | nil=>simp
 | cons c r ih =>
   rw[List.any_cons,List.any_cons,←ih];unfold zBF zCI;by_cases h1:c.op=1
   · by_cases h2:c.col=p.col
     · by_cases h3:c.val=p.val
       · simp only[h1,h2,h3,decide_true,Bool.true_and];cases decide (p.val≠⟨#[]⟩) <;> simp
       · have h3':¬p.val=c.val:=fun e=>h3 e.symm;simp[h1,h2,h3,h3']
     · have h2':¬p.col=c.col:=fun e=>h2 e.symm;simp[h2,h2']
   · have h1':¬(1:Int)=c.op:=fun e=>h1 e.symm;simp[h1,h1']
end Go.Proofs.YtfpcjhajjejpdaaGreatDoor
namespace Go.Proofs.YtfpcjhajjejpdaaGreatDoor
open Go.RowKit
set_option maxRecDepth 100000 in
theorem zBD (b0 b1 b2 b3 c0 c1 c2 c3 c4 c5 e0 e1 e2:Value) (b:TableD) (d:QueryD) (p:PlanD) (w:World) (hb:TableR w w.heap.size b0 b1 b2 b3 b) (h:QueryR w w.heap.size c0 c1 c2 c3 c4 c5 d) (hp:PlanR w w.heap.size e0 e1 e2 p) (hbs:b.small) (hs:d.small) :
 Calls Tryz.prog 22 #[.agg #[b0,b1,b2,b3],.agg #[c0,c1,c2,c3,c4,c5],.agg #[e0,e1,e2]] w fun e w'=>e=.returned (.bool (vI b d p))∧Below w.heap.size w w':=by
 have HK1:=zh (fun W (hW:Below w.heap.size w W)=>zAW b0 b1 b2 b3 c0 c1 c2 c3 c4 c5 b d W (hb.later hW) (h.later hW) hbs hs);have HPos:Hid (xK b d=true→0<b.cols.length):=fun hq=>zDb hq;obtain⟨rfl,rfl,⟨A2,n2,p2,rfl,s2,k2⟩,⟨A3,n3,p3,rfl,s3,k3⟩⟩:=hb;obtain⟨rfl,⟨B1,m1,q1,rfl,t1,l1⟩,⟨B2,m2,q2,rfl,t2,l2⟩,rfl,rfl,rfl⟩:=h;obtain⟨rfl,rfl,rfl⟩:=hp;have hn3:n3≤1048576:=by rw[←s3.1];exact hbs.2.2.2.1
 have hm2:m2≤1048576:=by rw[←t2.1];exact hs.2.2.1.1
 rw[s2.1]at HPos;have HS2:=zh s2;have HKI:=zh (fun W (hW:Below w.heap.size w W)=>zAX A3 n3 p3 b.idx p.col W (s3.later hW) hn3);have HI:Hid (inP b.idx p.col=decide (0≤xA b.idx p.col)):=rfl;rw[←HI.out]at HKI;have HKC:=zh (fun W (hW:Below w.heap.size w W)=>zDJ B2 m2 q2 d.wher ⟨p.col,1,p.val⟩ W (t2.later hW) hm2);dsimp only at HKC;have HR:Hid (vI b d p=(xK b d&&(if p.kind=3 then decide (p.col=⟨#[]⟩)&&decide (p.val=⟨#[]⟩) else if p.kind=1 then decide (p.col=b.cols.getD 0 ByteArray.empty)&&(decide (p.val≠⟨#[]⟩)&&d.wher.any (zBF ⟨p.col,1,p.val⟩)) else if p.kind=2 then inP b.idx p.col&&(decide (p.val≠⟨#[]⟩)&&d.wher.any (zBF ⟨p.col,1,p.val⟩)) else false))):=by unfold Hid;rw[zNK];rfl
 clear s2 s3 t1 t2 hs hbs;generalize vI b d p=R at *;generalize xK b d=x at *;generalize d.wher.any (zBF ⟨p.col,1,p.val⟩)=X at *;generalize inP b.idx p.col=xi at *;generalize b.name=nm at *;generalize b.glob=gl at *;generalize b.cols=bc at *;generalize d.table=tb at *;generalize d.order=od at *;generalize d.desc=ds at *;generalize d.limit=lm at *;generalize p.kind=kd at *;generalize p.col=pc at *;generalize p.val=pv at *;have HB0:=zh (yG w (.cells #[.string nm,.string gl,.slice A2 n2 p2,.slice A3 n3 p3] 29) (.cells #[.string tb,.slice B1 m1 q1,.slice B2 m2 q2,.string od,.bool ds,.int .i64 lm] 32) (.cells #[.int .i64 kd,.string pc,.string pv] 49));go_enter Tryz.func22,Tryz.ntmps22;go_wp2_with fail;refine(HK1.out _ HB0.out).mono ?_;rintro e w1 ⟨rfl,hb1⟩;have px:=(Blk.later (zK0 w _ _ _) hb1 (by simp;omega)).cell;have py:=(Blk.later (vG w _ _ _) hb1 (by simp)).cell;have pz:=(Blk.later (zG0 w _ _ _) hb1 (by simp)).cell;have HB:=zh (HB0.out.later hb1);have hz:=hb1.size;simp at hz;clear hb1;cases x
 · have HE:Hid (R=false):=by unfold Hid;rw[HR.out];rfl
   go_wp2_with fail;go_ret;exact⟨zA0 HE.out.symm,HB.out⟩
 have hpos:=HPos.out (by trivial);by_cases k3':kd=3
 · have HR3:Hid (R=(decide (pc=⟨#[]⟩)&&decide (pv=⟨#[]⟩))):=by unfold Hid;rw[HR.out,if_pos k3'];rfl
   subst k3';by_cases h1:pc=⟨#[]⟩
   · by_cases h2:pv=⟨#[]⟩
     · have HE:Hid (R=true):=by unfold Hid;rw[HR3.out,decide_eq_true h1,decide_eq_true h2];rfl
       subst h1 h2;go_wp2_with fail;go_ret;exact⟨zA0 HE.out.symm,HB.out⟩
     · have HE:Hid (R=false):=by unfold Hid;rw[HR3.out,decide_eq_false h2];simp
       have hbe:=zB0 h2;have hbe3:=wJ h2;subst h1;clear h2;go_wp2_with fail;go_ret;exact⟨zA0 HE.out.symm,HB.out⟩
   · have HE:Hid (R=false):=by unfold Hid;rw[HR3.out,decide_eq_false h1];rfl
     have hbe:=zB0 h1;have hbe3:=wJ h1;clear h1;go_wp2_with fail;go_ret;exact⟨zA0 HE.out.symm,HB.out⟩
 by_cases k1':kd=1
 · subst k1';obtain⟨sb,so,e1,hsb,hsc⟩:=(HS2.out.later HB.out).2 hpos;subst e1;have hck:=hsc 0 hpos;rw[Nat.add_zero]at hck;clear hsc;have i0:(0:Int)<(n2:Int):=by omega
   have x2:=px 2;have z1:=pz 1;simp at x2 z1;generalize bc.getD 0 ByteArray.empty=key at *;have HR1:Hid (R=(decide (pc=key)&&(decide (pv≠⟨#[]⟩)&&X))):=by unfold Hid;rw[HR.out,if_neg (by omega),if_pos rfl];rfl
   clear HR k3';go_wp2_with fail;by_cases hk:pc=key
   case neg =>
    have HE:Hid (R=false):=by unfold Hid;rw[HR1.out,decide_eq_false hk];rfl
    have hbe:=yJ hk;have hbe2:=zB0 hk;clear hk
    go_quiet (fail)
    go_wp2_with fail;go_ret;exact⟨zA0 HE.out.symm,wA HB.out _⟩
   subst hk;have HE:Hid (R=(decide (pv≠⟨#[]⟩)&&X)):=by unfold Hid;rw[HR1.out];simp
   clear HR1
   go_quiet (fail)
   by_cases h4:pv=⟨#[]⟩
   · have HE2:Hid (R=false):=by unfold Hid;rw[HE.out,decide_eq_false (fun h=>h h4)];rfl
     subst h4;go_wp2_with fail;go_ret;exact⟨zA0 HE2.out.symm,(wA HB.out _)⟩
   · have HE2:Hid (R=X):=by unfold Hid;rw[HE.out,decide_eq_true h4];rfl
     have hbe:=zB0 h4;have hbn:=yJ h4;have hbe3:=wJ h4;clear h4;go_wp2_with fail;refine(HKC.out _ (wA HB.out _)).mono ?_;rintro e w5 ⟨rfl,hb5⟩;have HB5:=zh (Below.later (wA HB.out _) hb5);clear hb5;go_wp2_with fail;go_ret;exact⟨zA0 HE2.out.symm,HB5.out⟩
 by_cases k2':kd=2
 · subst k2';have HR1:Hid (R=(xi&&(decide (pv≠⟨#[]⟩)&&X))):=by unfold Hid;rw[HR.out,if_neg (by omega),if_neg (by omega),if_pos rfl];rfl
   clear HR k3' k1';go_wp2_with fail;refine(HKI.out _ HB.out).mono ?_;rintro e w3 ⟨rfl,rfl⟩;cases xi
   · have HE:Hid (R=false):=by unfold Hid;rw[HR1.out];rfl
     go_wp2_with fail;go_ret;exact⟨zA0 HE.out.symm,HB.out⟩
   have HE:Hid (R=(decide (pv≠⟨#[]⟩)&&X)):=by unfold Hid;rw[HR1.out];rfl
   clear HR1;by_cases h4:pv=⟨#[]⟩
   · have HE2:Hid (R=false):=by unfold Hid;rw[HE.out,decide_eq_false (fun h=>h h4)];rfl
     subst h4;go_wp2_with fail;go_ret;exact⟨zA0 HE2.out.symm,HB.out⟩
   · have HE2:Hid (R=X):=by unfold Hid;rw[HE.out,decide_eq_true h4];rfl
     have hbe:=zB0 h4;have hbn:=yJ h4;have hbe3:=wJ h4;clear h4;go_wp2_with fail;refine(HKC.out _ HB.out).mono ?_;rintro e w5 ⟨rfl,hb5⟩;have HB5:=zh (Below.later HB.out hb5);clear hb5;go_wp2_with fail;go_ret;exact⟨zA0 HE2.out.symm,HB5.out⟩
 · have HE:Hid (R=false):=by unfold Hid;rw[HR.out,if_neg k3',if_neg k1',if_neg k2'];rfl
   have i1:=yF k3';have i2:=yF k1';have i3:=yF k2';clear HR k3' k1' k2';go_wp2_with fail;go_ret;exact⟨zA0 HE.out.symm,HB.out⟩
end Go.Proofs.YtfpcjhajjejpdaaGreatDoor
