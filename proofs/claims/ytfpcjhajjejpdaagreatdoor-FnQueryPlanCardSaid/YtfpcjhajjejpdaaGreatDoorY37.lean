import Derived.Test.YtfpcjhajjejpdaaGreatDoorY20
import Derived.Test.YtfpcjhajjejpdaaGreatDoorY22
import Derived.Deep.AppendLies
import Derived.Deep.DeepCutAuto
open Go.Lib renaming hid → zh
open List renaming getElem_cons_succ → zE, getElem_cons_zero → zF, getElem_toArray → zD, setIfInBounds_toArray → zA, set_cons_succ → zC, set_cons_zero → zB
namespace Go.Proofs.YtfpcjhajjejpdaaGreatDoor
open Go.RowKit
set_option linter.unusedSimpArgs false
theorem zJF (A:Option Addr) (n c kk:Nat) (desc:Bool) (r0:Value) (rs:List (List ByteArray)) (row:List ByteArray) (w:World) (h:RowsRd w w.heap.size A n rs) (hr:RowR w w.heap.size r0 row) (hn:n≤1048576) (hkr:kk<row.length) (hkl:∀x∈rs,kk<x.length) (hsr:wH row) (hsl:∀x∈rs,wH x) :
 Calls Tryz.prog 121 #[.slice A n c,.agg #[r0],.int .i64 kk,.bool desc] w (zHr w (Stab.mrg (ltK desc kk) rs [row]) w):=by
 cases desc
 · exact zJE A n c kk r0 rs row w h hr hn hkr hkl hsr hsl
 · exact zHY A n c kk r0 rs row w h hr hn hkr hkl hsr hsl
set_option maxRecDepth 100000 in
set_option maxHeartbeats 8000000 in
theorem zIa (A:Option Addr) (n c:Nat) (b0 b1 b2 b3 c0 c1 c2 c3 c4 c5:Value) (b:TableD) (d:QueryD) (rs:List (List ByteArray)) (w:World) (hb:TableR w w.heap.size b0 b1 b2 b3 b) (h:QueryR w w.heap.size c0 c1 c2 c3 c4 c5 d) (hr:RowsRd w w.heap.size A n rs) (hbs:b.small) (hs:d.small) (hrs:∀r∈rs,wH r) (hn:n≤24)
 (hfit:∀c∈d.wher,0≤xA b.cols c.col) (hord:d.order≠⟨#[]⟩→0≤xA b.cols d.order) (hcol:∀c∈d.cols,0≤xA b.cols c) (hlim:0≤d.limit) (hlen_:∀r∈rs,r.length=b.cols.length) :
 Calls Tryz.prog 50 #[.agg #[b0,b1,b2,b3],.agg #[c0,c1,c2,c3,c4,c5],.slice A n c] w (zCj (wP b d rs) w):=by
 obtain⟨i0,hi,hz0,hz1,hz2⟩:=info_parts yU;obtain⟨j0,hj,hk0,hk1,hk2⟩:=info_parts zAO;have HTT:=zh hb;have HQQ:=zh h;have HRR:=zh hr;have HKS:=zh (fun W (hW:Below w.heap.size w W) r0 row hm (hrr:RowR W W.heap.size r0 row)=>zGZ b0 b1 b2 b3 c0 c1 c2 c3 c4 c5 r0 b d row W (hb.later hW) (h.later hW) hrr hbs hs (hrs row hm) hfit (hlen_ row hm));have HLen:=zh hr.1;have HRS:=zh hrs;have HRL:=zh hlen_;have HF:=zh (fun (L:List (List ByteArray)) r hm=>zDz (cols:=b.cols) (d:=d) (rs:=L) (x:=r) hm);obtain⟨rfl,rfl,⟨A2,n2,p2,rfl,s2,k2⟩,⟨A3,n3,p3,rfl,s3,k3⟩⟩:=hb;obtain⟨rfl,⟨B1,m1,q1,rfl,t1,l1⟩,⟨B2,m2,q2,rfl,t2,l2⟩,rfl,rfl,rfl⟩:=h;have hn2:n2≤1048576:=by rw[←s2.1];exact hbs.2.2.1.1
 have hm1:m1≤1048576:=by rw[←t1.1];exact hs.2.1.1
 have HSC:=zh s2;have HKP:=zh (fun x W (hW:Below w.heap.size w W)=>(yE A2 n2 p2 b.cols x W (s2.later hW) hn2).mono (R':=fun e w'=>e=.returned (.int .i64 (xA b.cols x))∧Below W.heap.size W w') (fun e w' ⟨h1,h2⟩=>⟨h1,h2 ▸ Below.refl _ _⟩));have HB0:=zh ((Below.new w (.cells #[.string b.name,.string b.glob,.slice A2 n2 p2,.slice A3 n3 p3] 29)).later (Below.new _ (.cells #[.string d.table,.slice B1 m1 q1,.slice B2 m2 q2,.string d.order,.bool d.desc,.int .i64 d.limit] 32)));obtain⟨w0,hW0⟩:∃w0,w0=(w.alloc (.cells #[.string b.name,.string b.glob,.slice A2 n2 p2,.slice A3 n3 p3] 29)).alloc (.cells #[.string d.table,.slice B1 m1 q1,.slice B2 m2 q2,.string d.order,.bool d.desc,.int .i64 d.limit] 32):=⟨_,rfl⟩;have HX0:Hid (Blk w0 w.heap.size 29 #[.string b.name,.string b.glob,.slice A2 n2 p2,.slice A3 n3 p3]):=by subst hW0;exact yC _ _ _
 have HX1:Hid (Blk w0 (w.heap.size+1) 32 #[.string d.table,.slice B1 m1 q1,.slice B2 m2 q2,.string d.order,.bool d.desc,.int .i64 d.limit]):=by subst hW0;exact vB _ _ _
 have HBB:Hid (Below w.heap.size w w0):=by subst hW0;exact HB0.out
 have Hz0:Hid (w0.heap.size=w.heap.size+1+1):=by subst hW0;simp[Hid]
 have HRd:Hid (∀W',Below w0.heap.size w0 W'→(W'.cell? ⟨w.heap.size,0,none⟩=some (.string b.name)∧W'.cell? ⟨w.heap.size,1,none⟩=some (.string b.glob)∧W'.cell? ⟨w.heap.size,2,none⟩=some (.slice A2 n2 p2)∧W'.cell? ⟨w.heap.size,3,none⟩=some (.slice A3 n3 p3)∧W'.cell? ⟨w.heap.size+1,0,none⟩=some (.string d.table)∧W'.cell? ⟨w.heap.size+1,1,none⟩=some (.slice B1 m1 q1)∧W'.cell? ⟨w.heap.size+1,2,none⟩=some (.slice B2 m2 q2)∧W'.cell? ⟨w.heap.size+1,3,none⟩=some (.string d.order)∧W'.cell? ⟨w.heap.size+1,4,none⟩=some (.bool d.desc)∧W'.cell? ⟨w.heap.size+1,5,none⟩=some (.int .i64 d.limit))):=fun W' hW=>by have e0:=HX0.out.later hW HX0.out.lt;have e1:=HX1.out.later hW HX1.out.lt;exact⟨e0.at 0 rfl,e0.at 1 rfl,e0.at 2 rfl,e0.at 3 rfl,e1.at 0 rfl,e1.at 1 rfl,e1.at 2 rfl,e1.at 3 rfl,e1.at 4 rfl,e1.at 5 rfl⟩
 have hzb:w.heap.size<w0.heap.size:=by rw[Hz0.out];omega
 have hzc:w.heap.size+1<w0.heap.size:=by rw[Hz0.out];omega
 obtain⟨LB,hLB⟩:∃LB:Nat→List (List ByteArray),LB=fun k=>uN b.cols d ((rs.take k).filter (yI b.cols d.wher)):=⟨_,rfl⟩;have HLB0:Hid (LB 0=[]):=by subst hLB;unfold Hid;simp only[List.take_zero,List.filter_nil];exact List.eq_nil_of_length_eq_zero (zDA _ _ _)
 have HLBn:Hid (LB n=uN b.cols d (rs.filter (yI b.cols d.wher))):=by subst hLB;unfold Hid;simp only[];rw[List.take_of_length_le (by rw[HLen.out];exact Nat.le_refl _)]
 have HLBm:Hid (∀k,∀x∈LB k,x∈rs):=by subst hLB;intro k x hx;exact List.mem_of_mem_take (List.mem_filter.1 (zDz hx)).1
 have HLBl:Hid (∀k,(LB k).length≤k):=by subst hLB;intro k;simp only[];rw[zDA];exact zAC _ _ _
 have HLBs:Hid (∀k,k<rs.length→LB (k+1)=if yI b.cols d.wher (rs.getD k default)=true then (if d.order=⟨#[]⟩ then LB k++[rs.getD k default] else Stab.mrg (ltK d.desc (xA b.cols d.order).toNat) (LB k) [rs.getD k default]) else LB k):=by subst hLB;exact fun k hk=>zJw b.cols d _ rs k hk
 have HMD:Hid (wP b d rs=(zBy d.limit (LB n)).map (wO b.cols (zAd b d))):=by unfold Hid wP;rw[HLBn.out]
 have HPut:=zh (fun W A m c r0 (L:List (List ByteArray)) row (hm:row∈rs) (hL:∀x∈L,x∈rs) (hlen:L.length≤1048576) (kk:Nat) (hkk:xA b.cols d.order=kk) (h1:RowsRd W W.heap.size A m L) (h2:RowR W W.heap.size r0 row)=>zJF A m c kk d.desc r0 L row W h1 h2 (by rw[←h1.1];exact hlen) (by rw[hlen_ row hm];have:=(xD b.cols d.order).2;omega) (fun x hx=>by rw[hlen_ x (hL x hx)];have:=(xD b.cols d.order).2;omega) (hrs row hm) (fun x hx=>hrs x (hL x hx)));have HOR:=zh (fun (h:d.order≠⟨#[]⟩)=>(⟨(xA b.cols d.order).toNat,by have:=hord h;omega⟩:∃kk:Nat,xA b.cols d.order=kk));have HT1:=zh t1;have HCOL:=zh hcol;have HLIM:=zh hlim;clear s2 s3 t1 t2 hbs hs hrs hfit hord hcol hlen_ hr hLB hlim;go_enter Tryz.func50,Tryz.ntmps50;go_wp2_with fail;rw[←hW0];clear hW0 HB0;go_loopw [7,8] (fun v i wr=>∃(k:Nat) (A':Option Addr) (m cap:Nat),k≤n∧i=.int .i64 k∧v=.slice A' m cap∧m≤k∧Hid (RowsRd wr wr.heap.size A' m (LB k))∧Below w0.heap.size w0 wr∧Hid (d.order=⟨#[]⟩→∃cs,wr.ownsRow w0.heap.size 40 1 (.slice A' m cap) m cs∧CellsG 1 (zY0 w0 w0.heap.size) (LB k) cs)) (fun _ i _=>n-(intOf i).toNat)
 case atStart =>
  refine⟨0,some ⟨w.heap.size+1+1,0,none⟩,0,0,Nat.zero_le _,rfl,rfl,Nat.le_refl _,?_,Below.new _ _,fun _=>⟨[],?_,?_⟩⟩
  · rw[HLB0.out];exact⟨rfl,fun h=>absurd h (by omega)⟩
  · rw[←Hz0.out];simpa using World.ownsRow_lit (e:=40) (size:=1) w0 #[] 0 (Nat.le_refl _) (by omega) rfl
  · rw[HLB0.out];rfl
 case round =>
  obtain⟨k,A',m,cap,hk,rfl,rfl,hmk,hRR,hb,hOw⟩:=hrel;have HB:=zh hb;have HBw:=zh (HBB.out.later hb);have hzr:=hb.size;clear hb;by_cases hlt:k<n
  · have hl:k<rs.length:=by rw[HLen.out];exact hlt
    obtain⟨rb,ro,rfl,hrb,hcn⟩:=HRR.out.2 (by omega);obtain⟨rv,hrv,hrow⟩:=hcn k hlt;clear hcn;have HROW:=zh hrow;obtain⟨R0,rn,rc,rfl,_,_⟩:=hrow;have HLs:=zh (HLBs.out k hl);have hmem:=uB rs k hl;have HMem:=zh hmem;have HSt:=zh (fun W (hW:Below w.heap.size w W)=>HKS.out W hW (.slice R0 rn rc) (rs.getD k default) hmem (HROW.out.later hW));clear hmem hl;generalize rs.getD k default=row at *;generalize hy:yI b.cols d.wher row=y at *;clear hy;have hkz:(k:Int)<(n:Int):=by omega
    have HSW:Hid (∀W',Below wr.heap.size wr W'→((W'.cell? ⟨w.heap.size,0,none⟩=some (.string b.name)∧W'.cell? ⟨w.heap.size,1,none⟩=some (.string b.glob)∧W'.cell? ⟨w.heap.size,2,none⟩=some (.slice A2 n2 p2)∧W'.cell? ⟨w.heap.size,3,none⟩=some (.slice A3 n3 p3)∧W'.cell? ⟨w.heap.size+1,0,none⟩=some (.string d.table)∧W'.cell? ⟨w.heap.size+1,1,none⟩=some (.slice B1 m1 q1)∧W'.cell? ⟨w.heap.size+1,2,none⟩=some (.slice B2 m2 q2)∧W'.cell? ⟨w.heap.size+1,3,none⟩=some (.string d.order)∧W'.cell? ⟨w.heap.size+1,4,none⟩=some (.bool d.desc)∧W'.cell? ⟨w.heap.size+1,5,none⟩=some (.int .i64 d.limit))∧W'.cell? ⟨rb,ro+k,none⟩=some (.slice R0 rn rc))):=fun W' hW=>⟨HRd.out _ (HB.out.later hW),((HBw.out.later hW).cell (p:=⟨rb,ro+k,none⟩) hrb).trans hrv⟩;obtain⟨⟨x0,x1,x2,x3,x4,x5,x6,x7,x8,x9⟩,xa⟩:=HSW.out _ (Below.refl _ _);go_wp2_with fail
    go_region_held3 (fun W'=>(W'.cell? ⟨w.heap.size,0,none⟩=some (.string b.name)∧W'.cell? ⟨w.heap.size,1,none⟩=some (.string b.glob)∧W'.cell? ⟨w.heap.size,2,none⟩=some (.slice A2 n2 p2)∧W'.cell? ⟨w.heap.size,3,none⟩=some (.slice A3 n3 p3)∧W'.cell? ⟨w.heap.size+1,0,none⟩=some (.string d.table)∧W'.cell? ⟨w.heap.size+1,1,none⟩=some (.slice B1 m1 q1)∧W'.cell? ⟨w.heap.size+1,2,none⟩=some (.slice B2 m2 q2)∧W'.cell? ⟨w.heap.size+1,3,none⟩=some (.string d.order)∧W'.cell? ⟨w.heap.size+1,4,none⟩=some (.bool d.desc)∧W'.cell? ⟨w.heap.size+1,5,none⟩=some (.int .i64 d.limit))∧W'.cell? ⟨rb,ro+k,none⟩=some (.slice R0 rn rc))
     (first | exact HSW.out _ hb1 | exact HSW.out _ (Below.refl _ _).drew)
     (first | (go_at_call 120;refine(HSt.out _ (by exact HBw.out.drew)).mono ?_;rintro e w1 ⟨rfl,hb1'⟩;have hb1:=wD hb1';clear hb1'))
    have HB1:=zh (HB.out.later hb1);have HBw1:=zh (HBw.out.later hb1);have HRR1:=zh (hRR.out.later hb1);have HOw1:Hid (d.order=⟨#[]⟩→∃cs,w1.ownsRow w0.heap.size 40 1 (.slice A' m cap) m cs∧CellsG 1 (zY0 w0 w0.heap.size) (LB k) cs):=fun h=>by obtain⟨cs,h1,h2⟩:=hOw.out h;exact⟨cs,Own.own_later h1 hb1,h2⟩
    have hz1r:=HB1.out.size;have HSW1:Hid (∀W',Below w1.heap.size w1 W'→((W'.cell? ⟨w.heap.size,0,none⟩=some (.string b.name)∧W'.cell? ⟨w.heap.size,1,none⟩=some (.string b.glob)∧W'.cell? ⟨w.heap.size,2,none⟩=some (.slice A2 n2 p2)∧W'.cell? ⟨w.heap.size,3,none⟩=some (.slice A3 n3 p3)∧W'.cell? ⟨w.heap.size+1,0,none⟩=some (.string d.table)∧W'.cell? ⟨w.heap.size+1,1,none⟩=some (.slice B1 m1 q1)∧W'.cell? ⟨w.heap.size+1,2,none⟩=some (.slice B2 m2 q2)∧W'.cell? ⟨w.heap.size+1,3,none⟩=some (.string d.order)∧W'.cell? ⟨w.heap.size+1,4,none⟩=some (.bool d.desc)∧W'.cell? ⟨w.heap.size+1,5,none⟩=some (.int .i64 d.limit))∧W'.cell? ⟨rb,ro+k,none⟩=some (.slice R0 rn rc))):=fun W' hW=>HSW.out _ (hb1.later hW);clear hb1 x0 x1 x2 x3 x4 x5 x6 x7 x8 x9 xa;cases y
    · have HE:Hid (LB (k+1)=LB k):=by unfold Hid;rw[HLs.out,if_neg (by simp)]
      go_wp2_with fail;go_roundw;case rel=>exact⟨k+1,A',m,cap,by omega,by go_num,rfl,by omega,by rw[HE.out];exact HRR1.out,HB1.out,by rw[HE.out];exact HOw1.out⟩
      case measure=>simp[intOf];omega
    · by_cases ho:d.order=⟨#[]⟩
      · have HE:Hid (LB (k+1)=LB k++[row]):=by unfold Hid;rw[HLs.out,if_pos rfl,if_pos ho]
        obtain⟨cs,hown,hcs⟩:=HOw1.out ho;have HO:=zh hown;have HC:=zh hcs;have HOE:=zh ho;obtain⟨⟨x0,x1,x2,x3,x4,x5,x6,x7,x8,x9⟩,xa⟩:=HSW1.out _ (Below.refl _ _);have hoi:d.order.toList.isEmpty=true:=by rw[ho,wE];rfl
        clear hown hcs ho;have hrowx:Hid (∀oo,(w1.alloc oo).ownsRow w0.heap.size 40 1 _ m cs):=fun oo=>Own.own_later HO.out (Below.new _ _);go_wp2_with (at_builtin;refine wpList_append_own _ rfl (.tmp 32) (.tmp 37) 35 rfl w0.heap.size 40 i0 _ 1 24 Tryz.underlying35 hi hz0 hz1 hz2 rfl (by decide) _ m _ rfl (hrowx.out _) ⟨_,0,none⟩ 1 1 [.slice R0 rn rc] rfl rfl ?a10 ?b10 ?c10 ?d10 ?e10 ?_);all_goals try (first | exact wC _ #[.slice R0 rn rc] _ _ (by simp) | (simp[Value.oneCell'];done) | (unfold maxLen;omega) | omega | (simp;omega))
        intro v5 w5 hown1 hg1 _;have HB5:=zh (xN (HB1.out.later (Below.new w1 (.cells #[.slice R0 rn rc] 40))) (hrowx.out _) (Nat.le_refl _) hg1);have HC5:=zh (CellsG.snoc (R:=zY0 w0 w0.heap.size) (sz:=1) (d:=row) (c:=[.slice R0 rn rc]) ⟨_,rfl,HROW.out.later HBB.out⟩ rfl HC.out);have HO5:=zh hown1;obtain⟨A5,cap5,e5,_,_⟩:=Own.own_slice hown1;subst e5;have hl5:(LB k++[row]).length=m+1:=by rw[List.length_append,HRR1.out.1];rfl
        obtain⟨_,_,e6,_,hrd5⟩:=zAe hown1 hl5 HC5.out HB5.out;injection e6 with e6 _ e7;subst e6 e7;have HR5:=zh hrd5;clear hown1 hg1 x0 x1 x2 x3 x4 x5 x6 x7 x8 x9 xa hrd5 hl5;go_wp2_with fail;go_roundw;case rel=>exact⟨k+1,A5,m+1,cap5,by omega,by go_num,rfl,by omega,by rw[HE.out];exact HR5.out,HB5.out,fun _=>⟨_,HO5.out,by rw[HE.out];exact HC5.out⟩⟩
        case measure=>simp[intOf];omega
      · obtain⟨kk,hkk⟩:=HOR.out ho;have HE:Hid (LB (k+1)=Stab.mrg (ltK d.desc kk) (LB k) [row]):=by unfold Hid;rw[HLs.out,if_pos rfl,if_neg ho,hkk];rfl
        have HKPl:Hid (∀W,Below w.heap.size w W→Calls Tryz.prog 90 #[.slice A2 n2 p2,.string d.order] W fun e w'=>e=.returned (.int .i64 (kk:Nat))∧Below W.heap.size W w'):=fun W hW=>by have h:=HKP.out d.order W hW;rw[hkk]at h;exact h
        have HPk:=zh (fun W (hW:Below w1.heap.size w1 W)=>HPut.out W A' m cap (.slice R0 rn rc) (LB k) row HMem.out (HLBm.out k) (by have h1:=HLBl.out k;omega) kk hkk (HRR1.out.later hW) (HROW.out.later (HBw1.out.later hW)));have hoe:=zB0 ho;have hoe3:=wJ ho;have HNO:=zh ho;obtain⟨⟨x0,x1,x2,x3,x4,x5,x6,x7,x8,x9⟩,xa⟩:=HSW1.out _ (Below.refl _ _);clear ho hkk;go_wp2_with fail
        go_region_held3 (fun W'=>(W'.cell? ⟨w.heap.size,0,none⟩=some (.string b.name)∧W'.cell? ⟨w.heap.size,1,none⟩=some (.string b.glob)∧W'.cell? ⟨w.heap.size,2,none⟩=some (.slice A2 n2 p2)∧W'.cell? ⟨w.heap.size,3,none⟩=some (.slice A3 n3 p3)∧W'.cell? ⟨w.heap.size+1,0,none⟩=some (.string d.table)∧W'.cell? ⟨w.heap.size+1,1,none⟩=some (.slice B1 m1 q1)∧W'.cell? ⟨w.heap.size+1,2,none⟩=some (.slice B2 m2 q2)∧W'.cell? ⟨w.heap.size+1,3,none⟩=some (.string d.order)∧W'.cell? ⟨w.heap.size+1,4,none⟩=some (.bool d.desc)∧W'.cell? ⟨w.heap.size+1,5,none⟩=some (.int .i64 d.limit))∧W'.cell? ⟨rb,ro+k,none⟩=some (.slice R0 rn rc))
         (first | exact HSW1.out _ hb3 | exact HSW1.out _ hb2 | exact HSW1.out _ (Below.refl _ _).drew)
         (first
           | (go_at_call 90;refine(HKPl.out _ (by exact HBw1.out.drew)).mono ?_;rintro e w2 ⟨rfl,hb2'⟩;have hb2:=wD hb2';clear hb2')
           | (go_at_call 121;refine(HPk.out _ (by exact hb2)).mono ?_;rintro e w3 ⟨v3,cs3,rfl,hown3,hcs3,hb3'⟩;obtain⟨A5,cap5,e5,_,hrd3⟩:=zAe hown3 rfl hcs3 hb3';subst e5;have HRD3:=zh hrd3;have hb3:=hb2.later hb3';clear hb3' hown3 hcs3 hrd3))
        have HB3:=zh (HB1.out.later hb3);have hml:(Stab.mrg (ltK d.desc kk) (LB k) [row]).length=m+1:=by rw[Stab.mrg_len,HRR1.out.1];rfl
        have HML:=zh hml;have HRD4:Hid (RowsRd w3 w3.heap.size A5 (m+1) (Stab.mrg (ltK d.desc kk) (LB k) [row])):=by have h:=HRD3.out;rw[hml]at h;exact h
        clear hml;clear hb2 hb3 x0 x1 x2 x3 x4 x5 x6 x7 x8 x9 xa;go_wp2_with fail;go_roundw;case rel=>exact⟨k+1,A5,m+1,cap5,by omega,by go_num,by rw[HML.out],by omega,by rw[HE.out];exact HRD4.out,HB3.out,fun h=>absurd h HNO.out⟩
        case measure=>simp[intOf];omega
  · obtain rfl:k=n:=by omega
    obtain⟨W1,rfl⟩:∃W1,W1=wr:=⟨wr,rfl⟩;have HMD2:=zh HMD.out;have HRD:=zh hRR.out;have hLm:(LB k).length=m:=hRR.out.1;have HLL:Hid (∀q,q<m→((LB k).getD q default).length=b.cols.length):=fun q hq=>HRL.out _ (HLBm.out k _ (uB _ q (by rw[hLm];exact hq)));have hm24:m≤24:=by omega
    have hmn:m≤k:=hmk;clear hOw hRR hmk;generalize LB k=L at *;obtain⟨K,hK⟩:∃K,K=(zBy d.limit L).length:=⟨_,rfl⟩;have HKd:Hid (K=if d.limit=0 then m else min m d.limit.toNat):=by unfold Hid;rw[hK,zHh d.limit L,hLm]
    have HPROJ:=zh (fun q (hq:q<K)=>(⟨zHU (wO b.cols (zAd b d)) (zBy d.limit L) q (by rw[←hK];exact hq),zMu d.limit L q (by rw[←hK];exact hq)⟩:_∧_));have HKK:=zh hK;have hK24:K≤24:=by have h:=HKd.out;split at h <;> omega
    clear hK hLm;obtain⟨x0,x1,x2,x3,x4,x5,x6,x7,x8,x9⟩:=HRd.out _ HB.out;have HSEL0:Hid (zAd b d=if d.cols.length=0 then b.cols else d.cols):=rfl;have HSC1:=zh HT1.out.1
    go_upto_if 56 with fail
    go_cut [9] (fun v wx=>∃(SA:Option Addr) (sn sp:Nat),v=.slice SA sn sp∧wx=W1∧Hid (Strs w w.heap.size SA sn (zAd b d))∧Hid (∀t,t<(zAd b d).length→∃j,xA b.cols ((zAd b d).getD t ByteArray.empty)=(j:Nat)∧j<n2)∧sn≤1048576)
    case first=>as_aux_lemma =>
     by_cases h0:m1=0
     · have hsb:zAd b d=b.cols:=by rw[HSEL0.out,HSC1.out,if_pos h0]
       have HSEL:Hid (Strs w w.heap.size A2 n2 (zAd b d)):=by unfold Hid;rw[hsb];exact HSC.out
       have HPK:Hid (∀t,t<(zAd b d).length→∃j,xA b.cols ((zAd b d).getD t ByteArray.empty)=(j:Nat)∧j<n2):=fun t ht=>by rw[hsb]at ht ⊢;have h1:=zCT (uD b.cols t ht);have h2:=(xD b.cols (b.cols.getD t ByteArray.empty)).2;rw[HSC.out.1]at h2;exact⟨(xA b.cols (b.cols.getD t ByteArray.empty)).toNat,by omega,by omega⟩
       clear hsb;subst h0;go_wp2_with fail
       go_meet
       case rel=>exact⟨A2,n2,p2,rfl,rfl,HSEL.out,HPK.out,by omega⟩
     · have hsb:zAd b d=d.cols:=by rw[HSEL0.out,HSC1.out,if_neg h0]
       have HSEL:Hid (Strs w w.heap.size B1 m1 (zAd b d)):=by unfold Hid;rw[hsb];exact HT1.out
       have HPK:Hid (∀t,t<(zAd b d).length→∃j,xA b.cols ((zAd b d).getD t ByteArray.empty)=(j:Nat)∧j<n2):=fun t ht=>by rw[hsb]at ht ⊢;have h1:=HCOL.out _ (uD d.cols t ht);have h2:=(xD b.cols (d.cols.getD t ByteArray.empty)).2;rw[HSC.out.1]at h2;exact⟨(xA b.cols (d.cols.getD t ByteArray.empty)).toNat,by omega,by omega⟩
       clear hsb;have i1:((m1:Int)==0)=false:=by rw[beq_eq_false_iff_ne];omega
       have i2:(m1==0)=false:=by rw[beq_eq_false_iff_ne];omega
       go_wp2_with fail
       go_meet
       case rel=>exact⟨B1,m1,q1,rfl,rfl,HSEL.out,HPK.out,by omega⟩
    case rest=>as_aux_lemma =>
    obtain⟨SA,sn,sp,rfl,rfl,HSEL,HPK,hsnb⟩:=hcut;obtain⟨W1,rfl⟩:∃W1,W1=wc:=⟨wc,rfl⟩;clear HSEL0 HSC1;generalize zAd b d=SEL at *;go_wp2_with fail;go_loopw [10,11] (fun v i wr2=>∃(q:Nat) (acc:List (List ByteArray)),q≤K∧i=.int .i64 q∧Hid (acc=((zBy d.limit L).take q).map (wO b.cols SEL))∧Hid (acc.length=q)∧Hid (RowsI wr2 W1.heap.size v acc)∧Below W1.heap.size W1 wr2) (fun _ i _=>K-(intOf i).toNat);case atStart=>exact⟨0,[],Nat.zero_le _,rfl,by simp[Hid],rfl,uJ W1 _ (Nat.le_refl _),Below.new _ _⟩
    case round =>
     obtain⟨q,acc,hq,rfl,hacc,haccl,hRI,hb2⟩:=hrel;obtain⟨W2,rfl⟩:∃W2,W2=wr:=⟨wr,rfl⟩;have HB2:=zh hb2;clear hb2 x0 x1 x2 x3 x4 x5 x6 x7 x8 x9;obtain⟨y0,y1,y2,y3,y4,y5,y6,y7,y8,y9⟩:=HRd.out _ (HB.out.later HB2.out);by_cases hqK:q<K
     · have hqm:q<m:=by have h:=HKd.out;split at h <;> omega
       have hqmz:(q:Int)<(m:Int):=by omega
       go_upto_region 14 with fail
       go_cut [74] (fun v wx=>v=.bool true∧wx=W2)
       case first=>as_aux_lemma =>
        by_cases hL0:d.limit=0
        · rw[hL0]at y9;go_wp2_with fail
          go_meet
          case rel=>exact⟨rfl,rfl⟩
        · have hql:(q:Int)<d.limit:=by have h:=HKd.out;rw[if_neg hL0]at h;omega
          have hle:=yF hL0;go_wp2_with fail
          go_meet
          case rel=>exact⟨rfl,rfl⟩
       case rest=>as_aux_lemma =>
       obtain⟨rfl,rfl⟩:=hcut;obtain⟨W2,rfl⟩:∃W2,W2=wc:=⟨wc,rfl⟩;obtain⟨lb,lo,rfl,hlb,hlc⟩:=(HRD.out.later HB2.out).2 (by omega);obtain⟨lv,hlv,hlr⟩:=hlc q hqm;obtain⟨L0,ln,lc,rfl,hlS,_⟩:=hlr;have hrl:=HLL.out q hqm;have HLS:=zh hlS;have hln:n2=ln:=by rw[←hlS.1,hrl];exact HSC.out.1.symm
       have HPr:=zh (HPROJ.out q hqK);clear hlc hlS hrl;subst hln;generalize L.getD q default=lrow at *;have HW3:=zh (Below.new W2 (.cells #[.slice none 0 0] 40));have HX3:Hid (Blk (W2.alloc (.cells #[.slice none 0 0] 40)) W2.heap.size 40 #[.slice none 0 0]):=xC rfl;go_wp2_with fail;go_loopw [13] (fun i wr3=>∃(t:Nat) (A4:Option Addr) (c4:Nat),t≤sn∧i=.int .i64 t∧Hid (Blk wr3 W2.heap.size 40 #[.slice A4 t c4])∧Hid (wr3.ownsRow (W2.heap.size+1) 9 1 (.slice A4 t c4) t (((SEL.take t).map fun c=>lrow.getD (xA b.cols c).toNat ByteArray.empty).map Value.string))∧Hid (Below W2.heap.size W2 wr3)) (fun i _=>sn-(intOf i).toNat);case atStart=>exact⟨0,none,0,Nat.zero_le _,rfl,HX3.out,by unfold Hid;simpa using World.ownsRow_nil _ _ _ _,HW3.out⟩
       case round =>
        obtain⟨t,A4,c4,ht,rfl,hX,hO,hB3⟩:=hrel;have HBr:=zh (HB.out.later (HB2.out.later hB3.out));have HBw3:=zh (HBB.out.later HBr.out);by_cases hlt3:t<sn
        · have hsl:t<SEL.length:=by rw[HSEL.out.1];exact hlt3
          obtain⟨j,hj1,hj2⟩:=HPK.out t hsl;have HMS:=zh (zGo (fun c=>lrow.getD (xA b.cols c).toNat ByteArray.empty) SEL t hsl);obtain⟨L0b,L0o,rfl,hL0b,hL0c⟩:=HLS.out.2 (by omega);have hck:=cell_later hB3.out (hL0c j hj2);have HKj:Hid (∀W,Below w.heap.size w W→Calls Tryz.prog 90 #[.slice A2 n2 p2,.string (SEL.getD t ByteArray.empty)] W fun e w'=>e=.returned (.int .i64 (j:Nat))∧Below W.heap.size W w'):=fun W hW=>by have h:=HKP.out (SEL.getD t ByteArray.empty) W hW;rw[hj1]at h;exact h
          obtain⟨sb,so,rfl,hsb,hsc⟩:=(HSEL.out.later (HBB.out.later (HB.out.later HB2.out))).2 (by omega);have hcn:=cell_later hB3.out (hsc t hlt3);have hzW:w.heap.size<W2.heap.size:=by have h1:=HB.out.size;have h2:=HB2.out.size;omega
          have HPV:Hid (lrow.getD (xA b.cols (SEL.getD t ByteArray.empty)).toNat ByteArray.empty=lrow.getD j ByteArray.empty):=by unfold Hid;rw[hj1];rfl
          rw[HPV.out]at HMS;have hlq:=cell_later hB3.out hlv;have px:=hX.out.cell 0;have zx:=hX.out.lt;simp at px;have htz:(t:Int)<(sn:Int):=by omega
          have hjz:(j:Int)<(n2:Int):=by omega
          generalize SEL.getD t ByteArray.empty=cnm at *;generalize lrow.getD j ByteArray.empty=cell at *;generalize hXS:((SEL.take t).map fun c=>lrow.getD (xA b.cols c).toNat ByteArray.empty)=XS at *;have y2':=(HRd.out _ HBr.out).2.2.1;have HSW:Hid (∀W',Below wr.heap.size wr W'→((W'.cell? ⟨lb,lo+q,none⟩=some (.slice (some ⟨L0b,L0o,none⟩) n2 lc)∧W'.cell? ⟨w.heap.size,2,none⟩=some (.slice A2 n2 p2)∧W'.cell? ⟨sb,so+t,none⟩=some (.string cnm)∧W'.cell? ⟨L0b,L0o+j,none⟩=some (.string cell)))):=fun W' hW=>⟨cell_later hW hlq,cell_later hW y2',cell_later hW hcn,cell_later hW hck⟩;have HSR:Hid (∀W',Below W2.heap.size wr W'→((W'.cell? ⟨lb,lo+q,none⟩=some (.slice (some ⟨L0b,L0o,none⟩) n2 lc)∧W'.cell? ⟨w.heap.size,2,none⟩=some (.slice A2 n2 p2)∧W'.cell? ⟨sb,so+t,none⟩=some (.string cnm)∧W'.cell? ⟨L0b,L0o+j,none⟩=some (.string cell)))):=fun W' hW=>⟨(hW.cell (p:=⟨lb,lo+q,none⟩) hlb).trans hlq,(hW.cell (p:=⟨w.heap.size,2,none⟩) hzW).trans y2',(hW.cell (p:=⟨sb,so+t,none⟩) hsb).trans hcn,(hW.cell (p:=⟨L0b,L0o+j,none⟩) hL0b).trans hck⟩;clear hsc hL0c hj1 hj2 hsl hXS hlq hck hcn y2';obtain⟨p1,p2',p3,p4⟩:=HSW.out _ (Below.refl _ _);go_wp2_with fail;refine wp_region_held_drew (S:=fun W'=>(W'.cell? ⟨lb,lo+q,none⟩=some (.slice (some ⟨L0b,L0o,none⟩) n2 lc)∧W'.cell? ⟨w.heap.size,2,none⟩=some (.slice A2 n2 p2)∧W'.cell? ⟨sb,so+t,none⟩=some (.string cnm)∧W'.cell? ⟨L0b,L0o+j,none⟩=some (.string cell))) (by kernel_rfl) ?kst (fun hHeld=>?rst);case kst=>exact HSW.out _ (Below.refl wr.heap.size wr).drew
          refine wpAnyH_take (i:=0) (v:=?va1) rfl (by kernel_rfl) (by kernel_rfl) (by kernel_rfl) (fun _ _ _ h=>h) (Or.inl ⟨by rfl,?hy1⟩) (by assumption) ?re1;case hy1=>intro w hSw;(try dsimp only at hSw);go_simp;(try with_reducible rfl)
          try simp only[Act.put,zA,zB,zC,zD,zE,zF]
          refine wpAnyH_take (i:=2) (v:=?va2) rfl (by kernel_rfl) (by kernel_rfl) (by kernel_rfl) (fun _ _ _ h=>h) (Or.inl ⟨by rfl,?hy2⟩) (by assumption) ?re2;case hy2=>intro w hSw;(try dsimp only at hSw);go_simp;(try with_reducible rfl)
          try simp only[Act.put,zA,zB,zC,zD,zE,zF]
          refine wpAnyH_take (i:=3) (v:=?va3) rfl (by kernel_rfl) (by kernel_rfl) (by kernel_rfl) (fun _ _ _ h=>h) (Or.inl ⟨by rfl,?hy3⟩) (by assumption) ?re3;case hy3=>intro w hSw;(try dsimp only at hSw);go_simp;(try with_reducible rfl)
          try simp only[Act.put,zA,zB,zC,zD,zE,zF]
          refine wpAnyH_take (i:=4) (v:=?va4) rfl (by kernel_rfl) (by kernel_rfl) (by kernel_rfl) (fun _ _ _ h=>h) (Or.inl ⟨by rfl,?hy4⟩) (by assumption) ?re4;case hy4=>intro w hSw;(try dsimp only at hSw);go_simp;(try with_reducible rfl)
          try simp only[Act.put,zA,zB,zC,zD,zE,zF]
          refine wpAnyH_take (i:=5) (v:=?va5) rfl (by kernel_rfl) (by kernel_rfl) (by kernel_rfl) (fun _ _ _ h=>h) (Or.inl ⟨by rfl,?hy5⟩) (by assumption) ?re5;case hy5=>intro w hSw;(try dsimp only at hSw);go_simp;(try with_reducible rfl)
          try simp only[Act.put,zA,zB,zC,zD,zE,zF]
          refine wpAnyH_take (i:=6) (v:=?va6) rfl (by kernel_rfl) (by kernel_rfl) (by kernel_rfl) (fun _ _ _ h=>h) (Or.inl ⟨by rfl,?hy6⟩) (by assumption) ?re6;case hy6=>intro w hSw;(try dsimp only at hSw);go_simp;(try with_reducible rfl)
          try simp only[Act.put,zA,zB,zC,zD,zE,zF]
          refine wpAnyH_take (i:=7) (v:=?va7) rfl (by kernel_rfl) (by kernel_rfl) (by kernel_rfl) (fun _ _ _ h=>h) (Or.inl ⟨by rfl,?hy7⟩) (by assumption) ?re7;case hy7=>intro w hSw;(try dsimp only at hSw);go_simp;(try with_reducible rfl)
          try simp only[Act.put,zA,zB,zC,zD,zE,zF]
          refine wpAnyH_take (i:=8) (v:=?va8) rfl (by kernel_rfl) (by kernel_rfl) (by kernel_rfl) (fun _ _ _ h=>h) (Or.inl ⟨by rfl,?hy8⟩) (by assumption) ?re8;case hy8=>intro w hSw;(try dsimp only at hSw);go_simp;(try with_reducible rfl)
          try simp only[Act.put,zA,zB,zC,zD,zE,zF]
          refine wpAnyH_take (i:=9) (v:=?va9) rfl (by kernel_rfl) (by kernel_rfl) (by kernel_rfl) (fun _ _ _ h=>h) (Or.inl ⟨by rfl,?hy9⟩) (by assumption) ?re9;case hy9=>intro w hSw;(try dsimp only at hSw);go_simp;(try with_reducible rfl)
          try simp only[Act.put,zA,zB,zC,zD,zE,zF]
          refine wpAnyH_take (i:=10) (v:=?va10) rfl (by kernel_rfl) (by kernel_rfl) (by kernel_rfl) (fun _ _ _ h=>h) (Or.inl ⟨by rfl,?hy10⟩) (by assumption) ?re10;case hy10=>intro w hSw;(try dsimp only at hSw);go_simp;(try with_reducible rfl)
          try simp only[Act.put,zA,zB,zC,zD,zE,zF]
          refine wpAnyH_take (i:=11) (v:=?va11) rfl (by kernel_rfl) (by kernel_rfl) (by kernel_rfl) (fun _ _ _ h=>h) (Or.inl ⟨by rfl,?hy11⟩) (by assumption) ?re11;case hy11=>intro w hSw;(try dsimp only at hSw);go_simp;(try with_reducible rfl)
          try simp only[Act.put,zA,zB,zC,zD,zE,zF]
          refine wpAnyH_take (i:=12) (v:=?va12) rfl (by kernel_rfl) (by kernel_rfl) (by kernel_rfl) (fun _ _ _ h=>h) (Or.inl ⟨by rfl,?hy12⟩) (by assumption) ?re12;case hy12=>intro w hSw;(try dsimp only at hSw);go_simp;(try with_reducible rfl)
          try simp only[Act.put,zA,zB,zC,zD,zE,zF]
          refine wpAnyH_ready (rs:=[1,13]) (by kernel_rfl) (by simp) ?_;refine AllReadyH.cons rfl (fun K hK=>?ba31) (AllReadyH.cons rfl (fun K hK=>?bb31) AllReadyH.nil)
          case ba31 =>
           go_simp;refine hK.out _ _ ?ka31 (fun hHeld=>?ra31);case ka31=>exact HSW.out _ (Below.refl wr.heap.size wr).drew
           clear hK K;try simp only[Act.put,zA,zB,zC,zD,zE,zF]
           refine wpAnyH_ready (rs:=[13]) (by kernel_rfl) (by simp) ?_;refine AllReadyH.cons rfl (fun K hK=>?st19) AllReadyH.nil;go_simp;go_at_call 90;refine(HKj.out _ (by exact HBw3.out.drew)).mono ?_;rintro e w4 ⟨rfl,hb4⟩;have HB4:=zh (wD hb4);have HB4a:=zh (HB4.out.later (Below.new w4 (.cells #[.string cell] 9)));have HRA:=zh (Own.own_later hO.out HB4a.out);have hsz4:=HB4.out.size;have px4:=(Blk.later hX.out HB4.out zx).cell 0;simp at px4;have zx4:=(Blk.later hX.out HB4.out zx).lt;have zx5:=Nat.lt_succ_of_lt zx4;clear hb4;refine hK.out _ _ ?ke19 (fun hHeld=>?rs19);case ke19=>exact HSW.out _ HB4.out
           clear hK K;try simp only[Act.put,zA,zB,zC,zD,zE,zF]
           refine wpAnyH_take (i:=14) (v:=?va13) rfl (by kernel_rfl) (by kernel_rfl) (by kernel_rfl) (fun _ _ _ h=>h) (Or.inl ⟨by rfl,?hy13⟩) (by assumption) ?re13;case hy13=>intro w hSw;(try dsimp only at hSw);go_simp;(try with_reducible rfl)
           try simp only[Act.put,zA,zB,zC,zD,zE,zF]
           refine wpAnyH_take (i:=15) (v:=?va14) rfl (by kernel_rfl) (by kernel_rfl) (by kernel_rfl) (fun _ _ _ h=>h) (Or.inl ⟨by rfl,?hy14⟩) (by assumption) ?re14;case hy14=>intro w hSw;(try dsimp only at hSw);go_simp;(try with_reducible rfl)
           try simp only[Act.put,zA,zB,zC,zD,zE,zF]
           refine wpAnyH_ready (rs:=[16]) (by kernel_rfl) (by simp) ?_;refine AllReadyH.cons rfl (fun K hK=>?st18) AllReadyH.nil;go_simp;refine hK.out _ _ ?ke18 (fun hHeld=>?rs18);case ke18=>exact HSW.out _ HB4a.out
           clear hK K;try simp only[Act.put,zA,zB,zC,zD,zE,zF]
           refine wpAnyH_ready (rs:=[17]) (by kernel_rfl) (by simp) ?_;refine AllReadyH.cons rfl (fun K hK=>?st17) AllReadyH.nil;refine step_append_lies _ (by rfl) _ _ _ (by rfl) (W2.heap.size+1) 9 j0 _ 1 16 Tryz.underlying27 hj hk0 hk1 hk2 rfl (by omega) (.slice A4 t c4) t (XS.map Value.string) (by rfl) (by exact HRA.out) ⟨w4.heap.size,0,none⟩ 1 1 [.string cell] (by rfl) (by rfl) (by exact xR w4 #[.string cell] _) (by simp[Value.oneCell']) (by omega) (by unfold maxLen;omega) (by omega) (by simp;omega) (w4.heap.size+1) (by simp) ?_;intro gg cap' w5 hown5 hgrow5 hat hlt2;have HOW:=zh hown5;have HGR:=zh hgrow5;have HBG:=zh (((Blk.later hX.out HB4.out zx).alloc (.cells #[.string cell] 9)).grown hgrow5 (fun e=>Own.own_blk_ne hO.out hX.out (by decide) e.symm));have p5:=HBG.out.cell;have f5:=HBG.out.frozen;have z5:=HBG.out.lt;have HB5:Hid (Below W2.heap.size wr w5):=((HB4a.out.mono (by omega)).grown hgrow5 (by simp;omega) (fun g hg=>by have:=(World.ownsRow.lt hO.out g hg).1;omega));clear hown5 hgrow5;refine hK.out _ _ ?ke17 (fun hHeld=>?rs17);case ke17=>exact HSR.out _ HB5.out
           clear hK K;try simp only[Act.put,zA,zB,zC,zD,zE,zF]
           refine wpAnyH_take (i:=18) (v:=?va15) rfl (by kernel_rfl) (by kernel_rfl) (by kernel_rfl) (fun _ _ _ h=>h) (Or.inl ⟨by rfl,?hy15⟩) (by assumption) ?re15;case hy15=>intro w hSw;(try dsimp only at hSw);go_simp;(try with_reducible rfl)
           try simp only[Act.put,zA,zB,zC,zD,zE,zF]
           refine wpAnyH_ready (rs:=[19]) (by kernel_rfl) (by simp) ?_;refine AllReadyH.cons rfl (fun K hK=>?st16) AllReadyH.nil;go_simp;refine hK.out _ _ ?ke16 (fun hHeld=>?rs16);case ke16=>exact HSR.out _ (HB5.out.setCell (p:=⟨W2.heap.size,0,none⟩) (Nat.le_refl _) _)
           clear hK K;try simp only[Act.put,zA,zB,zC,zD,zE,zF]
           refine wpAnyH_done (by kernel_rfl) ?_ _
           as_aux_lemma =>
            have HX5:=zh (HBG.out.set_ 0 (.slice (some ⟨gg,0,none⟩) (t+1) cap'));have hgl:=(World.ownsRow.lt HOW.out gg rfl).1;have HO5:Hid ((w5.setCell ⟨W2.heap.size,0,none⟩ (.slice (some ⟨gg,0,none⟩) (t+1) cap')).ownsRow (W2.heap.size+1) 9 1 (.slice (some ⟨gg,0,none⟩) (t+1) cap') (t+1) (((SEL.take (t+1)).map fun c=>lrow.getD (xA b.cols c).toNat ByteArray.empty).map Value.string)):=by have h:=World.ownsRow.kept HOW.out (row:=some W2.heap.size) (Own.grown_set w5 W2.heap.size 0 (.slice (some ⟨gg,0,none⟩) (t+1) cap')) (.inr (by simp[Value.ownBlock];omega));unfold Hid;rw[HMS.out,List.map_append];exact h
            have HB6:Hid (Below W2.heap.size W2 (w5.setCell ⟨W2.heap.size,0,none⟩ (.slice (some ⟨gg,0,none⟩) (t+1) cap'))):=(hB3.out.trans HB5.out).setCell (p:=⟨W2.heap.size,0,none⟩) (Nat.le_refl _) _;clear HBG HOW HGR HB5 HB4 HB4a HRA p1 p2' p3 p4 px p5 f5 z5;go_wp2_with fail;go_roundw;case rel=>exact⟨t+1,some ⟨gg,0,none⟩,cap',by omega,by go_num,by have h:=HX5.out;unfold Hid;simpa using h,HO5.out,HB6.out⟩
            case measure=>simp[intOf];omega
          case bb31 =>
           go_simp;go_at_call 90;refine(HKj.out _ (by exact HBw3.out.drew)).mono ?_;rintro e w4 ⟨rfl,hb4⟩;have HB4:=zh (wD hb4);have HB4a:=zh (HB4.out.later (Below.new w4 (.cells #[.string cell] 9)));have HRA:=zh (Own.own_later hO.out HB4a.out);have hsz4:=HB4.out.size;have px4:=(Blk.later hX.out HB4.out zx).cell 0;simp at px4;have zx4:=(Blk.later hX.out HB4.out zx).lt;have zx5:=Nat.lt_succ_of_lt zx4;clear hb4;refine hK.out _ _ ?kb31 (fun hHeld=>?rb31);case kb31=>exact HSW.out _ HB4.out
           clear hK K;try simp only[Act.put,zA,zB,zC,zD,zE,zF]
           refine wpAnyH_take (i:=14) (v:=?va20) rfl (by kernel_rfl) (by kernel_rfl) (by kernel_rfl) (fun _ _ _ h=>h) (Or.inl ⟨by rfl,?hy20⟩) (by assumption) ?re20;case hy20=>intro w hSw;(try dsimp only at hSw);go_simp;(try with_reducible rfl)
           try simp only[Act.put,zA,zB,zC,zD,zE,zF]
           refine wpAnyH_take (i:=15) (v:=?va21) rfl (by kernel_rfl) (by kernel_rfl) (by kernel_rfl) (fun _ _ _ h=>h) (Or.inl ⟨by rfl,?hy21⟩) (by assumption) ?re21;case hy21=>intro w hSw;(try dsimp only at hSw);go_simp;(try with_reducible rfl)
           try simp only[Act.put,zA,zB,zC,zD,zE,zF]
           refine wpAnyH_ready (rs:=[1,16]) (by kernel_rfl) (by simp) ?_;refine AllReadyH.cons rfl (fun K hK=>?ba30) (AllReadyH.cons rfl (fun K hK=>?bb30) AllReadyH.nil)
           case ba30 =>
            go_simp;refine hK.out _ _ ?ka30 (fun hHeld=>?ra30);case ka30=>exact HSW.out _ HB4.out
            clear hK K;try simp only[Act.put,zA,zB,zC,zD,zE,zF]
            refine wpAnyH_ready (rs:=[16]) (by kernel_rfl) (by simp) ?_;refine AllReadyH.cons rfl (fun K hK=>?st25) AllReadyH.nil;go_simp;refine hK.out _ _ ?ke25 (fun hHeld=>?rs25);case ke25=>exact HSW.out _ HB4a.out
            clear hK K;try simp only[Act.put,zA,zB,zC,zD,zE,zF]
            refine wpAnyH_ready (rs:=[17]) (by kernel_rfl) (by simp) ?_;refine AllReadyH.cons rfl (fun K hK=>?st24) AllReadyH.nil;refine step_append_lies _ (by rfl) _ _ _ (by rfl) (W2.heap.size+1) 9 j0 _ 1 16 Tryz.underlying27 hj hk0 hk1 hk2 rfl (by omega) (.slice A4 t c4) t (XS.map Value.string) (by rfl) (by exact HRA.out) ⟨w4.heap.size,0,none⟩ 1 1 [.string cell] (by rfl) (by rfl) (by exact xR w4 #[.string cell] _) (by simp[Value.oneCell']) (by omega) (by unfold maxLen;omega) (by omega) (by simp;omega) (w4.heap.size+1) (by simp) ?_;intro gg cap' w5 hown5 hgrow5 hat hlt2;have HOW:=zh hown5;have HGR:=zh hgrow5;have HBG:=zh (((Blk.later hX.out HB4.out zx).alloc (.cells #[.string cell] 9)).grown hgrow5 (fun e=>Own.own_blk_ne hO.out hX.out (by decide) e.symm));have p5:=HBG.out.cell;have f5:=HBG.out.frozen;have z5:=HBG.out.lt;have HB5:Hid (Below W2.heap.size wr w5):=((HB4a.out.mono (by omega)).grown hgrow5 (by simp;omega) (fun g hg=>by have:=(World.ownsRow.lt hO.out g hg).1;omega));clear hown5 hgrow5;refine hK.out _ _ ?ke24 (fun hHeld=>?rs24);case ke24=>exact HSR.out _ HB5.out
            clear hK K;try simp only[Act.put,zA,zB,zC,zD,zE,zF]
            refine wpAnyH_take (i:=18) (v:=?va22) rfl (by kernel_rfl) (by kernel_rfl) (by kernel_rfl) (fun _ _ _ h=>h) (Or.inl ⟨by rfl,?hy22⟩) (by assumption) ?re22;case hy22=>intro w hSw;(try dsimp only at hSw);go_simp;(try with_reducible rfl)
            try simp only[Act.put,zA,zB,zC,zD,zE,zF]
            refine wpAnyH_ready (rs:=[19]) (by kernel_rfl) (by simp) ?_;refine AllReadyH.cons rfl (fun K hK=>?st23) AllReadyH.nil;go_simp;refine hK.out _ _ ?ke23 (fun hHeld=>?rs23);case ke23=>exact HSR.out _ (HB5.out.setCell (p:=⟨W2.heap.size,0,none⟩) (Nat.le_refl _) _)
            clear hK K;try simp only[Act.put,zA,zB,zC,zD,zE,zF]
            refine wpAnyH_done (by kernel_rfl) ?_ _
            as_aux_lemma =>
             have HX5:=zh (HBG.out.set_ 0 (.slice (some ⟨gg,0,none⟩) (t+1) cap'));have hgl:=(World.ownsRow.lt HOW.out gg rfl).1;have HO5:Hid ((w5.setCell ⟨W2.heap.size,0,none⟩ (.slice (some ⟨gg,0,none⟩) (t+1) cap')).ownsRow (W2.heap.size+1) 9 1 (.slice (some ⟨gg,0,none⟩) (t+1) cap') (t+1) (((SEL.take (t+1)).map fun c=>lrow.getD (xA b.cols c).toNat ByteArray.empty).map Value.string)):=by have h:=World.ownsRow.kept HOW.out (row:=some W2.heap.size) (Own.grown_set w5 W2.heap.size 0 (.slice (some ⟨gg,0,none⟩) (t+1) cap')) (.inr (by simp[Value.ownBlock];omega));unfold Hid;rw[HMS.out,List.map_append];exact h
             have HB6:Hid (Below W2.heap.size W2 (w5.setCell ⟨W2.heap.size,0,none⟩ (.slice (some ⟨gg,0,none⟩) (t+1) cap'))):=(hB3.out.trans HB5.out).setCell (p:=⟨W2.heap.size,0,none⟩) (Nat.le_refl _) _;clear HBG HOW HGR HB5 HB4 HB4a HRA p1 p2' p3 p4 px p5 f5 z5;go_wp2_with fail;go_roundw;case rel=>exact⟨t+1,some ⟨gg,0,none⟩,cap',by omega,by go_num,by have h:=HX5.out;unfold Hid;simpa using h,HO5.out,HB6.out⟩
             case measure=>simp[intOf];omega
           case bb30 =>
            go_simp;refine hK.out _ _ ?kb30 (fun hHeld=>?rb30);case kb30=>exact HSW.out _ HB4a.out
            clear hK K;try simp only[Act.put,zA,zB,zC,zD,zE,zF]
            refine wpAnyH_ready (rs:=[1]) (by kernel_rfl) (by simp) ?_;refine AllReadyH.cons rfl (fun K hK=>?st29) AllReadyH.nil;go_simp;refine hK.out _ _ ?ke29 (fun hHeld=>?rs29);case ke29=>exact HSW.out _ HB4a.out
            clear hK K;try simp only[Act.put,zA,zB,zC,zD,zE,zF]
            refine wpAnyH_ready (rs:=[17]) (by kernel_rfl) (by simp) ?_;refine AllReadyH.cons rfl (fun K hK=>?st28) AllReadyH.nil;refine step_append_lies _ (by rfl) _ _ _ (by rfl) (W2.heap.size+1) 9 j0 _ 1 16 Tryz.underlying27 hj hk0 hk1 hk2 rfl (by omega) (.slice A4 t c4) t (XS.map Value.string) (by rfl) (by exact HRA.out) ⟨w4.heap.size,0,none⟩ 1 1 [.string cell] (by rfl) (by rfl) (by exact xR w4 #[.string cell] _) (by simp[Value.oneCell']) (by omega) (by unfold maxLen;omega) (by omega) (by simp;omega) (w4.heap.size+1) (by simp) ?_;intro gg cap' w5 hown5 hgrow5 hat hlt2;have HOW:=zh hown5;have HGR:=zh hgrow5;have HBG:=zh (((Blk.later hX.out HB4.out zx).alloc (.cells #[.string cell] 9)).grown hgrow5 (fun e=>Own.own_blk_ne hO.out hX.out (by decide) e.symm));have p5:=HBG.out.cell;have f5:=HBG.out.frozen;have z5:=HBG.out.lt;have HB5:Hid (Below W2.heap.size wr w5):=((HB4a.out.mono (by omega)).grown hgrow5 (by simp;omega) (fun g hg=>by have:=(World.ownsRow.lt hO.out g hg).1;omega));clear hown5 hgrow5;refine hK.out _ _ ?ke28 (fun hHeld=>?rs28);case ke28=>exact HSR.out _ HB5.out
            clear hK K;try simp only[Act.put,zA,zB,zC,zD,zE,zF]
            refine wpAnyH_take (i:=18) (v:=?va26) rfl (by kernel_rfl) (by kernel_rfl) (by kernel_rfl) (fun _ _ _ h=>h) (Or.inl ⟨by rfl,?hy26⟩) (by assumption) ?re26;case hy26=>intro w hSw;(try dsimp only at hSw);go_simp;(try with_reducible rfl)
            try simp only[Act.put,zA,zB,zC,zD,zE,zF]
            refine wpAnyH_ready (rs:=[19]) (by kernel_rfl) (by simp) ?_;refine AllReadyH.cons rfl (fun K hK=>?st27) AllReadyH.nil;go_simp;refine hK.out _ _ ?ke27 (fun hHeld=>?rs27);case ke27=>exact HSR.out _ (HB5.out.setCell (p:=⟨W2.heap.size,0,none⟩) (Nat.le_refl _) _)
            clear hK K;try simp only[Act.put,zA,zB,zC,zD,zE,zF]
            refine wpAnyH_done (by kernel_rfl) ?_ _
            as_aux_lemma =>
             have HX5:=zh (HBG.out.set_ 0 (.slice (some ⟨gg,0,none⟩) (t+1) cap'));have hgl:=(World.ownsRow.lt HOW.out gg rfl).1;have HO5:Hid ((w5.setCell ⟨W2.heap.size,0,none⟩ (.slice (some ⟨gg,0,none⟩) (t+1) cap')).ownsRow (W2.heap.size+1) 9 1 (.slice (some ⟨gg,0,none⟩) (t+1) cap') (t+1) (((SEL.take (t+1)).map fun c=>lrow.getD (xA b.cols c).toNat ByteArray.empty).map Value.string)):=by have h:=World.ownsRow.kept HOW.out (row:=some W2.heap.size) (Own.grown_set w5 W2.heap.size 0 (.slice (some ⟨gg,0,none⟩) (t+1) cap')) (.inr (by simp[Value.ownBlock];omega));unfold Hid;rw[HMS.out,List.map_append];exact h
             have HB6:Hid (Below W2.heap.size W2 (w5.setCell ⟨W2.heap.size,0,none⟩ (.slice (some ⟨gg,0,none⟩) (t+1) cap'))):=(hB3.out.trans HB5.out).setCell (p:=⟨W2.heap.size,0,none⟩) (Nat.le_refl _) _;clear HBG HOW HGR HB5 HB4 HB4a HRA p1 p2' p3 p4 px p5 f5 z5;go_wp2_with fail;go_roundw;case rel=>exact⟨t+1,some ⟨gg,0,none⟩,cap',by omega,by go_num,by have h:=HX5.out;unfold Hid;simpa using h,HO5.out,HB6.out⟩
             case measure=>simp[intOf];omega
        · obtain rfl:t=sn:=by omega
          have hpl:SEL.take t=SEL:=List.take_of_length_le (by rw[HSEL.out.1];exact Nat.le_refl _);have hPB:((SEL.take t).map fun c=>lrow.getD (xA b.cols c).toNat ByteArray.empty)=wO b.cols SEL lrow:=by rw[hpl];rfl
          have HSub:Hid (Own.SubO wr (W2.heap.size+1) (.slice A4 t c4) (wO b.cols SEL lrow)):=by unfold Hid Own.SubO;have h:=hO.out;rw[hPB]at h;rw[show(wO b.cols SEL lrow).length=t by unfold wO;rw[List.length_map];exact HSEL.out.1];exact h
          clear hpl hPB;have px:=hX.out.cell 0;have zx:=hX.out.lt;simp at px;obtain⟨vs,hRW⟩:=hRI.out;have HRW:=zh hRW;have HRW3:=zh (hRW.later hB3.out);have HAP:=zh (Own.OwnL.fresh hRW HSub.out (Nat.le_succ _));have hrow:Hid (∀oo,(wr.alloc oo).ownsRow W1.heap.size 40 1 _ acc.length (Own.flat rowK acc vs)):=fun oo=>Own.own_later HRW3.out.row (Below.new _ _);have haql:=haccl.out;have hz12:=HB2.out.size;have hz23:=hB3.out.size;clear hRW;rw[haql]at hrow;go_wp2_with (at_builtin;refine wpList_append_own _ rfl (.tmp 103) (.tmp 105) 35 rfl W1.heap.size 40 i0 _ 1 24 Tryz.underlying35 hi hz0 hz1 hz2 rfl (by decide) _ q _ rfl (hrow.out _) ⟨_,0,none⟩ 1 1 [.slice A4 t c4] rfl rfl ?m1 ?m2 ?m3 ?m4 ?m5 ?_);all_goals try (first | exact wC _ #[.slice A4 t c4] _ _ (by simp) | (simp[Value.oneCell'];done) | (unfold maxLen;omega) | omega | (simp;omega))
          intro v1 w6 hown1 hg1 _;have HN6:Hid (RowsI w6 W1.heap.size v1 (acc++[wO b.cols SEL lrow])):=by have hX6:Own.SubO (wr.alloc (.cells #[.slice A4 t c4] 40)) W1.heap.size (.slice A4 t c4) (wO b.cols SEL lrow):=Own.own_base (Own.own_later HSub.out (Below.new _ _)) (by omega);refine⟨vs++[.slice A4 t c4],Own.OwnL.snoc (HRW3.out.later (Below.new wr (.cells #[.slice A4 t c4] 40))) hX6 HAP.out ?_ hg1 (by decide)⟩;show w6.ownsRow W1.heap.size 40 1 v1 (acc.length+1) (Own.flat rowK acc vs++[.slice A4 t c4]);rw[haql];exact hown1
          have HB6:=zh (((HB2.out.trans (hB3.out.mono hz12)).later (Below.new wr (.cells #[.slice A4 t c4] 40))).grown hg1 (by simp;omega) (fun g hg'=>((hrow.out (.cells #[] 0)).lt g hg').1));have HE:Hid (acc++[wO b.cols SEL lrow]=((zBy d.limit L).take (q+1)).map (wO b.cols SEL)):=by unfold Hid;rw[HPr.out.1,HPr.out.2,hacc.out]
          clear hown1 hg1 px;go_wp2_with fail;go_roundw;case rel=>exact⟨q+1,acc++[wO b.cols SEL lrow],by omega,by go_num,HE.out,by unfold Hid;rw[List.length_append,haql];rfl,HN6.out,HB6.out⟩
          case measure=>simp[intOf];omega
     · obtain rfl:q=K:=by omega
       have HEnd:Hid (acc=wP b d rs):=by unfold Hid;rw[HMD2.out,hacc.out,List.take_of_length_le (by rw[←HKK.out];exact Nat.le_refl _)]
       go_upto_region 14 with fail
       go_cut [74] (fun v wx=>v=.bool false∧wx=W2)
       case first=>as_aux_lemma =>
        by_cases hqm:q<m
        · have hL0:d.limit≠0:=fun e=>by have h:=HKd.out;rw[if_pos e]at h;omega
          have hqmz:(q:Int)<(m:Int):=by omega
          have hql:d.limit≤(q:Int):=by have h:=HKd.out;rw[if_neg hL0]at h;omega
          have hle:=yF hL0;have hqd:decide ((q:Int)<d.limit)=false:=by simp;omega
          go_wp2_with fail
          go_meet
          case rel=>exact⟨rfl,rfl⟩
        · have hqmz:(m:Int)≤(q:Int):=by omega
          have hqd:decide ((q:Int)<(m:Int))=false:=by simp;omega
          go_wp2_with fail
          go_meet
          case rel=>exact⟨rfl,rfl⟩
       case rest=>as_aux_lemma =>
       obtain⟨rfl,rfl⟩:=hcut;obtain⟨W2,rfl⟩:∃W2,W2=wc:=⟨wc,rfl⟩;have HRE:=zh ((hRI.out).base (show w.heap.size≤W1.heap.size by have h1:=HB.out.size;omega));have HBE:=zh ((HBB.out.later HB.out).later HB2.out);go_wp2_with fail;go_ret;exact⟨_,rfl,by rw[←HEnd.out];exact HRE.out,HBE.out⟩
end Go.Proofs.YtfpcjhajjejpdaaGreatDoor
