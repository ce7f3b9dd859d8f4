import Derived.Test.YtfpcjhajjejpdaaGreatDoorY24
import Derived.Test.YtfpcjhajjejpdaaGreatDoorY25
import Derived.Test.YtfpcjhajjejpdaaGreatDoorY26
open Go.Lib renaming hid → zh
open List renaming getElem_cons_succ → zE, getElem_cons_zero → zF, getElem_toArray → zD, setIfInBounds_toArray → zA, set_cons_succ → zC, set_cons_zero → zB
namespace Go.Proofs.YtfpcjhajjejpdaaGreatDoor
open Go.RowKit
set_option linter.unusedVariables false
theorem zHg {α:Type} [Inhabited α] (p:α→Bool):∀(l:List α) (k:Nat),k<l.length→(∀j,j<k→p (l.getD j default)=false)→p (l.getD k default)=true→l.find? p=some (l.getD k default)
 | [],k,hk,_,_=>by simp at hk
 | x::l,0,_,_,h=>by have h1:p x=true:=h;show(x::l).find? p=some x;rw[List.find?_cons_of_pos h1]
 | x::l,k+1,hk,hn,h=>by have h0:p x=false:=hn 0 (by omega);rw[List.find?_cons_of_neg (by rw[h0];decide)];exact zHg p l k (by simpa using hk) (fun j hj=>hn (j+1) (by omega)) h
theorem zKG {α:Type} [Inhabited α] (p:α→Bool) (l:List α) (h:∀k,k<l.length→p (l.getD k default)=false):l.find? p=none:=by
 rw[List.find?_eq_none];intro x hx;obtain⟨i,hi,rfl⟩:=List.getElem_of_mem hx;have:=h i hi;rw[List.getD_eq_getElem?_getD,List.getElem?_eq_getElem hi]at this;simpa using this
def zCa (b:TableD) (c:CondD):Bool:=zGv c&&decide (c.col=b.cols.getD 0 ByteArray.empty)
def zCJ (b:TableD) (c:CondD):Bool:=zGv c&&decide (0≤xA b.idx c.col)
def vO (b:TableD) (q:QueryD):Int × PlanD:=if xK b q=true then (0,yQ b q) else (1,⟨0,⟨#[]⟩,⟨#[]⟩⟩)
theorem zMC {b:TableD} {q:QueryD} {c:CondD} (h:q.wher.find? (zCa b)=some c):yQ b q=⟨1,c.col,c.val⟩:=by
 show(match q.wher.find? (zCa b) with | some c=>(⟨1,c.col,c.val⟩:PlanD) | none=>match q.wher.find? (zCJ b) with | some c=>⟨2,c.col,c.val⟩ | none=>⟨3,⟨#[]⟩,⟨#[]⟩⟩)=_;rw[h]
theorem zMB {b:TableD} {q:QueryD} {c:CondD} (h:q.wher.find? (zCa b)=none) (h2:q.wher.find? (zCJ b)=some c):yQ b q=⟨2,c.col,c.val⟩:=by
 show(match q.wher.find? (zCa b) with | some c=>(⟨1,c.col,c.val⟩:PlanD) | none=>match q.wher.find? (zCJ b) with | some c=>⟨2,c.col,c.val⟩ | none=>⟨3,⟨#[]⟩,⟨#[]⟩⟩)=_;rw[h,h2]
theorem zMA {b:TableD} {q:QueryD} (h:q.wher.find? (zCa b)=none) (h2:q.wher.find? (zCJ b)=none):yQ b q=⟨3,⟨#[]⟩,⟨#[]⟩⟩:=by
 show(match q.wher.find? (zCa b) with | some c=>(⟨1,c.col,c.val⟩:PlanD) | none=>match q.wher.find? (zCJ b) with | some c=>⟨2,c.col,c.val⟩ | none=>⟨3,⟨#[]⟩,⟨#[]⟩⟩)=_;rw[h,h2]
set_option maxRecDepth 100000 in
set_option maxHeartbeats 40000000 in
theorem zKe (b0 b1 b2 b3 c0 c1 c2 c3 c4 c5:Value) (b:TableD) (d:QueryD) (w:World) (hb:TableR w w.heap.size b0 b1 b2 b3 b) (h:QueryR w w.heap.size c0 c1 c2 c3 c4 c5 d) (hbs:b.small) (hs:d.small) :
 Calls Tryz.prog 20 #[.agg #[b0,b1,b2,b3],.agg #[c0,c1,c2,c3,c4,c5]] w fun e w'=>e=.returned (.tuple #[.agg #[.int .i64 (vO b d).2.kind,.string (vO b d).2.col,.string (vO b d).2.val],.int .i64 (vO b d).1])∧Below w.heap.size w w':=by
 have HK1:=zh (fun W (hW:Below w.heap.size w W)=>zAW b0 b1 b2 b3 c0 c1 c2 c3 c4 c5 b d W (hb.later hW) (h.later hW) hbs hs);have HPos:Hid (xK b d=true→0<b.cols.length):=fun hq=>zDb hq;obtain⟨rfl,rfl,⟨A2,n2,p2,rfl,s2,k2⟩,⟨A3,n3,p3,rfl,s3,k3⟩⟩:=hb;obtain⟨rfl,⟨B1,m1,q1,rfl,t1,l1⟩,⟨B2,m2,q2,rfl,t2,l2⟩,rfl,rfl,rfl⟩:=h;have hn3:n3≤1048576:=by rw[←s3.1];exact hbs.2.2.2.1
 have hm2:m2≤1048576:=by rw[←t2.1];exact hs.2.2.1.1
 rw[s2.1]at HPos;have HM2:Hid (d.wher.length=m2):=t2.1;have HC2:=zh (fun W (hW:Below w.heap.size w W)=>s2.later hW);have HCW:=zh (fun W (hW:Below w.heap.size w W)=>t2.later hW);have HKI:=zh (fun x W (hW:Below w.heap.size w W)=>zAX A3 n3 p3 b.idx x W (s3.later hW) hn3);have HR0:Hid (xK b d=false→vO b d=(1,⟨0,⟨#[]⟩,⟨#[]⟩⟩)):=fun h=>by unfold vO;rw[h];rfl
 have HR1:Hid (xK b d=true→∀c,d.wher.find? (zCa b)=some c→vO b d=(0,⟨1,c.col,c.val⟩)):=fun h c hc=>by unfold vO;rw[if_pos h,zMC hc]
 have HR2:Hid (xK b d=true→d.wher.find? (zCa b)=none→∀c,d.wher.find? (zCJ b)=some c→vO b d=(0,⟨2,c.col,c.val⟩)):=fun h h1 c hc=>by unfold vO;rw[if_pos h,zMB h1 hc]
 have HR3:Hid (xK b d=true→d.wher.find? (zCa b)=none→d.wher.find? (zCJ b)=none→vO b d=(0,⟨3,⟨#[]⟩,⟨#[]⟩⟩)):=fun h h1 h2=>by unfold vO;rw[if_pos h,zMA h1 h2]
 have HH1:Hid (∀c,zCa b c=(decide (c.op=1)&&decide (c.val≠⟨#[]⟩)&&decide (c.col=b.cols.getD 0 ByteArray.empty))):=fun c=>rfl;have HH2:Hid (∀c,zCJ b c=(decide (c.op=1)&&decide (c.val≠⟨#[]⟩)&&decide (0≤xA b.idx c.col))):=fun c=>rfl;obtain⟨WB,hWB⟩:∃WB,WB=((w.alloc (.cells #[.string b.name,.string b.glob,.slice A2 n2 p2,.slice A3 n3 p3] 29)).alloc (.cells #[.string d.table,.slice B1 m1 q1,.slice B2 m2 q2,.string d.order,.bool d.desc,.int .i64 d.limit] 32)).alloc (.cells #[.int .i64 0,.string ⟨#[]⟩,.string ⟨#[]⟩] 49):=⟨_,rfl⟩;have HBB:Hid (Below w.heap.size w WB):=by subst hWB;exact yG w _ _ _
 have HT0:Hid (Blk WB w.heap.size 29 #[.string b.name,.string b.glob,.slice A2 n2 p2,.slice A3 n3 p3]):=by subst hWB;exact zK0 _ _ _ _
 have HQ0:Hid (Blk WB (w.heap.size+1) 32 #[.string d.table,.slice B1 m1 q1,.slice B2 m2 q2,.string d.order,.bool d.desc,.int .i64 d.limit]):=by subst hWB;exact vG _ _ _ _
 have HP0:Hid (Blk WB (w.heap.size+1+1) 49 #[.int .i64 0,.string ⟨#[]⟩,.string ⟨#[]⟩]):=by subst hWB;exact zG0 _ _ _ _
 have HSA:Hid (∀W,Below WB.heap.size WB W→(W.cell? ⟨w.heap.size,2,none⟩=some (.slice A2 n2 p2)∧W.cell? ⟨w.heap.size,3,none⟩=some (.slice A3 n3 p3)∧W.cell? ⟨w.heap.size+1,2,none⟩=some (.slice B2 m2 q2))):=fun W hW=>⟨(HT0.out.later hW HT0.out.lt).at 2 rfl,(HT0.out.later hW HT0.out.lt).at 3 rfl,(HQ0.out.later hW HQ0.out.lt).at 2 rfl⟩;have hwb:w.heap.size+1+1<WB.heap.size:=HP0.out.lt;clear s2 s3 t1 t2 hs hbs HT0 HQ0;generalize vO b d=R at *;generalize hfb:xK b d=fb at *;clear hfb;generalize b.name=nm at *;generalize b.glob=gl at *;generalize d.table=tb at *;generalize d.order=od at *;generalize d.desc=ds at *;generalize d.limit=lm at *;obtain⟨x0,x1,x2⟩:=HSA.out _ (Below.refl _ _);go_enter Tryz.func20,Tryz.ntmps20;go_wp2_with fail;(try rw[←hWB]);clear hWB;(try go_wp2_with fail);refine(HK1.out _ HBB.out).mono ?_;rintro e w1 ⟨rfl,hb1⟩;have HB1:=zh hb1;have HP1:=zh (HP0.out.later hb1 HP0.out.lt);have HW1:=zh (HBB.out.later hb1);clear hb1 x0 x1 x2 HK1 HP0;obtain⟨x0,x1,x2⟩:=HSA.out _ HB1.out;cases fb;case false=>have HE:=zh (HR0.out (by first | rfl | trivial));have r0:=HP1.out.cell 0;have r1:=HP1.out.cell 1;have r2:=HP1.out.cell 2;have f0:=HP1.out.frozen 0;have f1:=HP1.out.frozen 1;have f2:=HP1.out.frozen 2;have rz:=HP1.out.lt;simp at r0 r1 r2;go_wp2_with fail;refine bodyPost_ret (v:=.tuple #[.agg #[.int .i64 0,.string ⟨#[]⟩,.string ⟨#[]⟩],.int .i64 1]) (by simp[results,Tryz.results20,go_sem,r0,r1,r2]) rfl ?_;exact⟨by rw[HE.out],((HW1.out.setCell (show w.heap.size≤w.heap.size+1+1 by omega) _).setCell (show w.heap.size≤w.heap.size+1+1 by omega) _).setCell (show w.heap.size≤w.heap.size+1+1 by omega) _⟩
 have hpos:=HPos.out (by first | rfl | trivial);obtain⟨cb,co,rfl,hcb,hcc⟩:=(HC2.out _ HW1.out).2 hpos;have hk0:=hcc 0 hpos;rw[Nat.add_zero]at hk0;have HKEY:=zh (fun W (hW:Below w1.heap.size w1 W)=>cell_later hW hk0);clear hcc hk0 HC2;generalize b.cols.getD 0 ByteArray.empty=key at *;go_wp2_with fail;go_loopw [18] (fun i wr=>∃k:Nat,k≤m2∧i=.int .i64 k∧Below w1.heap.size w1 wr∧Hid (∀j,j<k→zCa b (d.wher.getD j default)=false)) (fun i _=>m2-(intOf i).toNat);case atStart=>exact⟨0,Nat.zero_le _,rfl,Below.refl _ _,fun j hj=>absurd hj (by omega)⟩
 case round =>
  obtain⟨k,hk,rfl,hbw,HNO⟩:=hrel;obtain⟨W0,rfl⟩:∃W0,W0=wr:=⟨wr,rfl⟩;have HB0:=zh hbw;have HX0:=zh (HB1.out.later hbw);have HW0:=zh (HW1.out.later hbw);have hw0:=HX0.out.size;clear hbw x0 x1 x2;obtain⟨x0,x1,x2⟩:=HSA.out _ HX0.out;by_cases hlt:k<m2
  · have hki:(k:Int)<(m2:Int):=by omega
    obtain⟨qb,qo,rfl,hqb,hqc⟩:=(HCW.out _ HW0.out).2 (by omega);obtain⟨z0,z1,z2,zc0,zc1,zc2,rfl,rfl,rfl⟩:=hqc k hlt;have HFI:Hid (zCa b (d.wher.getD k default)=true→d.wher.find? (zCa b)=some (d.wher.getD k default)):=fun h=>zHg _ _ k (by rw[HM2.out];exact hlt) HNO.out h;have HHK:=zh (HH1.out (d.wher.getD k default))
    have HNX:Hid (zCa b (d.wher.getD k default)=false→∀j,j<k+1→zCa b (d.wher.getD j default)=false):=fun h j hj=>by
     rcases Nat.lt_or_ge j k with h1 | h1
     · exact HNO.out j h1
     · obtain rfl:j=k:=by omega
       exact h
    have HRR:=zh (HR1.out (by first | rfl | trivial));clear hqc;generalize d.wher.getD k default=cd at *;obtain⟨ccol,cop,cval⟩:=cd;dsimp only at HHK zc0 zc1 zc2;generalize zCa b ⟨ccol,cop,cval⟩=hit at *;obtain⟨W1,hW1⟩:∃W1,W1=W0.alloc (.cells #[.string ccol,.int .i64 cop,.string cval] 44):=⟨_,rfl⟩;have HBN:Hid (Below W0.heap.size W0 W1):=by subst hW1;exact Below.new _ _
    have HCB:Hid (Blk W1 W0.heap.size 44 #[.string ccol,.int .i64 cop,.string cval]):=by subst hW1;exact heap_alloc_new _ _
    have HS6:Hid (∀W,Below W1.heap.size W1 W→(W.cell? ⟨W0.heap.size,0,none⟩=some (.string ccol)∧W.cell? ⟨W0.heap.size,1,none⟩=some (.int .i64 cop)∧W.cell? ⟨W0.heap.size,2,none⟩=some (.string cval)∧W.cell? ⟨w.heap.size,2,none⟩=some (.slice (some ⟨cb,co,none⟩) n2 p2)∧W.cell? ⟨cb,co,none⟩=some (.string key))):=fun W hW=>⟨(HCB.out.later hW HCB.out.lt).at 0 rfl,(HCB.out.later hW HCB.out.lt).at 1 rfl,(HCB.out.later hW HCB.out.lt).at 2 rfl,(HSA.out _ (HX0.out.later (HBN.out.later hW))).1,HKEY.out _ (HB0.out.later (HBN.out.later hW))⟩
    go_upto_region 6 with fail
    rw[←hW1];clear hW1
    go_cut [38] (fun v wx=>v=.bool hit∧Hid (Below W1.heap.size W1 wx))
    case first=>as_aux_lemma =>
     clear x0 x1 x2 zc0 zc1 zc2;by_cases h1:cop=1
     case neg =>
      have hE:hit=false:=by rw[HHK.out,decide_eq_false h1];rfl
      have hb1:(cop==1)=false:=beq_eq_false_iff_ne.2 h1;subst hE;refine zE0 (S:=fun W=>W.cell? ⟨W0.heap.size,0,none⟩=some (.string ccol)∧W.cell? ⟨W0.heap.size,1,none⟩=some (.int .i64 cop)∧W.cell? ⟨W0.heap.size,2,none⟩=some (.string cval)∧W.cell? ⟨w.heap.size,2,none⟩=some (.slice (some ⟨cb,co,none⟩) n2 p2)∧W.cell? ⟨cb,co,none⟩=some (.string key)) 16 (by kernel_rfl) ?hSra (fun hHeld=>?rgra);case hSra=>exact HS6.out _ (Below.refl _ _).drew
      refine wt 0 ?raa1 [8,3,2,1] ?rab2 ?rac3;case rab2=>intro w hSw;(try dsimp only at hSw);obtain⟨s0,s1,s2,s3,s4⟩:=hSw;go_simp;(try with_reducible rfl)
      try simp only[Act.put,zA,zB,zC,zD,zF]
      refine wt 1 ?raa4 [8,3,2] ?rab5 ?rac6;case rab5=>intro w hSw;(try dsimp only at hSw);obtain⟨s0,s1,s2,s3,s4⟩:=hSw;go_simp;(try with_reducible rfl)
      try simp only[Act.put,zA,zB,zC,zD,zE,zF]
      refine wt 2 ?raa7 [8,3] ?rab8 ?rac9;case rab8=>intro w hSw;(try dsimp only at hSw);obtain⟨s0,s1,s2,s3,s4⟩:=hSw;go_simp;(try with_reducible rfl)
      try simp only[Act.put,zA,zB,zC,zD,zE,zF]
      refine wt 3 ?raa10 [8] ?rab11 ?rac12;case rab11=>intro w hSw;(try dsimp only at hSw);obtain⟨s0,s1,s2,s3,s4⟩:=hSw;go_simp;(try with_reducible rfl)
      try simp only[Act.put,zA,zB,zC,zD,zE,zF]
      refine wu 4 [8,7,6,5] ?rac13;try simp only[Act.put,zA,zB,zC,zD,zE,zF]
      refine wu 5 [8,7,6] ?rac14;try simp only[Act.put,zA,zB,zC,zD,zE,zF]
      refine wu 6 [8,7] ?rac15;try simp only[Act.put,zA,zB,zC,zD,zE,zF]
      refine wt 7 ?raa16 [8] ?rab17 ?rac18;case rab17=>intro w hSw;(try dsimp only at hSw);obtain⟨s0,s1,s2,s3,s4⟩:=hSw;go_simp;(try with_reducible rfl)
      try simp only[Act.put,zA,zB,zC,zD,zE,zF]
      refine wt 8 ?raa19 [] ?rab20 ?rac21;case rab20=>intro w hSw;(try dsimp only at hSw);obtain⟨s0,s1,s2,s3,s4⟩:=hSw;go_simp;(try with_reducible rfl)
      try simp only[Act.put,zA,zB,zC,zD,zE,zF]
      refine wu 9 [15,10] ?rac22;try simp only[Act.put,zA,zB,zC,zD,zE,zF]
      refine wu 10 [15] ?rac23;try simp only[Act.put,zA,zB,zC,zD,zE,zF]
      refine wu 11 [15,14,13,12] ?rac24;try simp only[Act.put,zA,zB,zC,zD,zE,zF]
      refine wu 12 [15,14,13] ?rac25;try simp only[Act.put,zA,zB,zC,zD,zE,zF]
      refine wu 13 [15,14] ?rac26;try simp only[Act.put,zA,zB,zC,zD,zE,zF]
      refine wu 14 [15] ?rac27;try simp only[Act.put,zA,zB,zC,zD,zE,zF]
      refine wu 15 [] ?rac28;try simp only[Act.put,zA,zB,zC,zD,zE,zF]
      refine yA (rs:=[16]) (by kernel_rfl) (by simp) ?_;refine AllReadyE.cons rfl (fun KW hK=>?rast29) AllReadyE.nil;go_simp;refine hK.out _ _ (fun h=>absurd rfl h) (fun hHeld=>?rars31);clear hK KW;try simp only[Act.put,zA,zB,zC,zD,zE,zF]
      refine vE (by kernel_rfl) ?_ _;go_wp2_with fail
      go_meet
      case rel=>exact⟨rfl,(Below.refl _ _).drew⟩
     subst h1;by_cases h2:cval=⟨#[]⟩
     case pos =>
      have hE:hit=false:=by rw[HHK.out,h2];simp
      subst hE h2;refine zE0 (S:=fun W=>W.cell? ⟨W0.heap.size,0,none⟩=some (.string ccol)∧W.cell? ⟨W0.heap.size,1,none⟩=some (.int .i64 1)∧W.cell? ⟨W0.heap.size,2,none⟩=some (.string ⟨#[]⟩)∧W.cell? ⟨w.heap.size,2,none⟩=some (.slice (some ⟨cb,co,none⟩) n2 p2)∧W.cell? ⟨cb,co,none⟩=some (.string key)) 16 (by kernel_rfl) ?hSrb (fun hHeld=>?rgrb);case hSrb=>exact HS6.out _ (Below.refl _ _).drew
      refine wt 0 ?rba1 [8,3,2,1] ?rbb2 ?rbc3;case rbb2=>intro w hSw;(try dsimp only at hSw);obtain⟨s0,s1,s2,s3,s4⟩:=hSw;go_simp;(try with_reducible rfl)
      try simp only[Act.put,zA,zB,zC,zD,zF]
      refine wt 1 ?rba4 [8,3,2] ?rbb5 ?rbc6;case rbb5=>intro w hSw;(try dsimp only at hSw);obtain⟨s0,s1,s2,s3,s4⟩:=hSw;go_simp;(try with_reducible rfl)
      try simp only[Act.put,zA,zB,zC,zD,zE,zF]
      refine wt 2 ?rba7 [8,3] ?rbb8 ?rbc9;case rbb8=>intro w hSw;(try dsimp only at hSw);obtain⟨s0,s1,s2,s3,s4⟩:=hSw;go_simp;(try with_reducible rfl)
      try simp only[Act.put,zA,zB,zC,zD,zE,zF]
      refine wt 3 ?rba10 [8] ?rbb11 ?rbc12;case rbb11=>intro w hSw;(try dsimp only at hSw);obtain⟨s0,s1,s2,s3,s4⟩:=hSw;go_simp;(try with_reducible rfl)
      try simp only[Act.put,zA,zB,zC,zD,zE,zF]
      refine wt 4 ?rba13 [8,7,6,5] ?rbb14 ?rbc15;case rbb14=>intro w hSw;(try dsimp only at hSw);obtain⟨s0,s1,s2,s3,s4⟩:=hSw;go_simp;(try with_reducible rfl)
      try simp only[Act.put,zA,zB,zC,zD,zE,zF]
      refine wt 5 ?rba16 [8,7,6] ?rbb17 ?rbc18;case rbb17=>intro w hSw;(try dsimp only at hSw);obtain⟨s0,s1,s2,s3,s4⟩:=hSw;go_simp;(try with_reducible rfl)
      try simp only[Act.put,zA,zB,zC,zD,zE,zF]
      refine wt 6 ?rba19 [8,7] ?rbb20 ?rbc21;case rbb20=>intro w hSw;(try dsimp only at hSw);obtain⟨s0,s1,s2,s3,s4⟩:=hSw;go_simp;(try with_reducible rfl)
      try simp only[Act.put,zA,zB,zC,zD,zE,zF]
      refine wt 7 ?rba22 [8] ?rbb23 ?rbc24;case rbb23=>intro w hSw;(try dsimp only at hSw);obtain⟨s0,s1,s2,s3,s4⟩:=hSw;go_simp;(try with_reducible rfl)
      try simp only[Act.put,zA,zB,zC,zD,zE,zF]
      refine wt 8 ?rba25 [] ?rbb26 ?rbc27;case rbb26=>intro w hSw;(try dsimp only at hSw);obtain⟨s0,s1,s2,s3,s4⟩:=hSw;go_simp;(try with_reducible rfl)
      try simp only[Act.put,zA,zB,zC,zD,zE,zF]
      refine wu 9 [15,10] ?rbc28;try simp only[Act.put,zA,zB,zC,zD,zE,zF]
      refine wu 10 [15] ?rbc29;try simp only[Act.put,zA,zB,zC,zD,zE,zF]
      refine wu 11 [15,14,13,12] ?rbc30;try simp only[Act.put,zA,zB,zC,zD,zE,zF]
      refine wu 12 [15,14,13] ?rbc31;try simp only[Act.put,zA,zB,zC,zD,zE,zF]
      refine wu 13 [15,14] ?rbc32;try simp only[Act.put,zA,zB,zC,zD,zE,zF]
      refine wu 14 [15] ?rbc33;try simp only[Act.put,zA,zB,zC,zD,zE,zF]
      refine wu 15 [] ?rbc34;try simp only[Act.put,zA,zB,zC,zD,zE,zF]
      refine yA (rs:=[16]) (by kernel_rfl) (by simp) ?_;refine AllReadyE.cons rfl (fun KW hK=>?rbst35) AllReadyE.nil;go_simp;refine hK.out _ _ (fun h=>absurd rfl h) (fun hHeld=>?rbrs37);clear hK KW;try simp only[Act.put,zA,zB,zC,zD,zE,zF]
      refine vE (by kernel_rfl) ?_ _;go_wp2_with fail
      go_meet
      case rel=>exact⟨rfl,(Below.refl _ _).drew⟩
     have hb2:=yJ h2
     have hb3:(!cval.toList.isEmpty)=true:=by
      have h1:(⟨#[]⟩:ByteArray).toList=[]:=by first | rfl | simp | decide
      rw[h1]at hb2;revert hb2;cases cval.toList <;> simp
     clear hb2;by_cases h3:ccol=key
     case neg =>
      have hE:hit=false:=by rw[HHK.out,decide_eq_false h3];simp
      have hb4:=zB0 h3;subst hE;refine zE0 (S:=fun W=>W.cell? ⟨W0.heap.size,0,none⟩=some (.string ccol)∧W.cell? ⟨W0.heap.size,1,none⟩=some (.int .i64 1)∧W.cell? ⟨W0.heap.size,2,none⟩=some (.string cval)∧W.cell? ⟨w.heap.size,2,none⟩=some (.slice (some ⟨cb,co,none⟩) n2 p2)∧W.cell? ⟨cb,co,none⟩=some (.string key)) 16 (by kernel_rfl) ?hSrc (fun hHeld=>?rgrc);case hSrc=>exact HS6.out _ (Below.refl _ _).drew
      refine wt 0 ?rca1 [8,3,2,1] ?rcb2 ?rcc3;case rcb2=>intro w hSw;(try dsimp only at hSw);obtain⟨s0,s1,s2,s3,s4⟩:=hSw;go_simp;(try with_reducible rfl)
      try simp only[Act.put,zA,zB,zC,zD,zF]
      refine wt 1 ?rca4 [8,3,2] ?rcb5 ?rcc6;case rcb5=>intro w hSw;(try dsimp only at hSw);obtain⟨s0,s1,s2,s3,s4⟩:=hSw;go_simp;(try with_reducible rfl)
      try simp only[Act.put,zA,zB,zC,zD,zE,zF]
      refine wt 2 ?rca7 [8,3] ?rcb8 ?rcc9;case rcb8=>intro w hSw;(try dsimp only at hSw);obtain⟨s0,s1,s2,s3,s4⟩:=hSw;go_simp;(try with_reducible rfl)
      try simp only[Act.put,zA,zB,zC,zD,zE,zF]
      refine wt 3 ?rca10 [8] ?rcb11 ?rcc12;case rcb11=>intro w hSw;(try dsimp only at hSw);obtain⟨s0,s1,s2,s3,s4⟩:=hSw;go_simp;(try with_reducible rfl)
      try simp only[Act.put,zA,zB,zC,zD,zE,zF]
      refine wt 4 ?rca13 [8,7,6,5] ?rcb14 ?rcc15;case rcb14=>intro w hSw;(try dsimp only at hSw);obtain⟨s0,s1,s2,s3,s4⟩:=hSw;go_simp;(try with_reducible rfl)
      try simp only[Act.put,zA,zB,zC,zD,zE,zF]
      refine wt 5 ?rca16 [8,7,6] ?rcb17 ?rcc18;case rcb17=>intro w hSw;(try dsimp only at hSw);obtain⟨s0,s1,s2,s3,s4⟩:=hSw;go_simp;(try with_reducible rfl)
      try simp only[Act.put,zA,zB,zC,zD,zE,zF]
      refine wt 6 ?rca19 [8,7] ?rcb20 ?rcc21;case rcb20=>intro w hSw;(try dsimp only at hSw);obtain⟨s0,s1,s2,s3,s4⟩:=hSw;go_simp;(try with_reducible rfl)
      try simp only[Act.put,zA,zB,zC,zD,zE,zF]
      refine wt 7 ?rca22 [8] ?rcb23 ?rcc24;case rcb23=>intro w hSw;(try dsimp only at hSw);obtain⟨s0,s1,s2,s3,s4⟩:=hSw;go_simp;(try with_reducible rfl)
      try simp only[Act.put,zA,zB,zC,zD,zE,zF]
      refine wt 8 ?rca25 [] ?rcb26 ?rcc27;case rcb26=>intro w hSw;(try dsimp only at hSw);obtain⟨s0,s1,s2,s3,s4⟩:=hSw;go_simp;(try with_reducible rfl)
      try simp only[Act.put,zA,zB,zC,zD,zE,zF]
      refine wt 9 ?rca28 [15,10] ?rcb29 ?rcc30;case rcb29=>intro w hSw;(try dsimp only at hSw);obtain⟨s0,s1,s2,s3,s4⟩:=hSw;go_simp;(try with_reducible rfl)
      try simp only[Act.put,zA,zB,zC,zD,zE,zF]
      refine wt 10 ?rca31 [15] ?rcb32 ?rcc33;case rcb32=>intro w hSw;(try dsimp only at hSw);obtain⟨s0,s1,s2,s3,s4⟩:=hSw;go_simp;(try with_reducible rfl)
      try simp only[Act.put,zA,zB,zC,zD,zE,zF]
      refine wt 11 ?rca34 [15,14,13,12] ?rcb35 ?rcc36;case rcb35=>intro w hSw;(try dsimp only at hSw);obtain⟨s0,s1,s2,s3,s4⟩:=hSw;go_simp;(try with_reducible rfl)
      try simp only[Act.put,zA,zB,zC,zD,zE,zF]
      refine wt 12 ?rca37 [15,14,13] ?rcb38 ?rcc39;case rcb38=>intro w hSw;(try dsimp only at hSw);obtain⟨s0,s1,s2,s3,s4⟩:=hSw;go_simp;(try with_reducible rfl)
      try simp only[Act.put,zA,zB,zC,zD,zE,zF]
      refine wt 13 ?rca40 [15,14] ?rcb41 ?rcc42;case rcb41=>intro w hSw;(try dsimp only at hSw);obtain⟨s0,s1,s2,s3,s4⟩:=hSw;go_simp;(try with_reducible rfl)
      try simp only[Act.put,zA,zB,zC,zD,zE,zF]
      refine wt 14 ?rca43 [15] ?rcb44 ?rcc45;case rcb44=>intro w hSw;(try dsimp only at hSw);obtain⟨s0,s1,s2,s3,s4⟩:=hSw;go_simp;(try with_reducible rfl)
      try simp only[Act.put,zA,zB,zC,zD,zE,zF]
      refine wt 15 ?rca46 [] ?rcb47 ?rcc48;case rcb47=>intro w hSw;(try dsimp only at hSw);obtain⟨s0,s1,s2,s3,s4⟩:=hSw;go_simp;(try with_reducible rfl)
      try simp only[Act.put,zA,zB,zC,zD,zE,zF]
      refine yA (rs:=[16]) (by kernel_rfl) (by simp) ?_;refine AllReadyE.cons rfl (fun KW hK=>?rcst49) AllReadyE.nil;go_simp;refine hK.out _ _ (fun h=>absurd rfl h) (fun hHeld=>?rcrs51);clear hK KW;try simp only[Act.put,zA,zB,zC,zD,zE,zF]
      refine vE (by kernel_rfl) ?_ _;go_wp2_with fail
      go_meet
      case rel=>exact⟨rfl,(Below.refl _ _).drew⟩
     have hE:hit=true:=by rw[HHK.out,decide_eq_true h3,decide_eq_true (rfl:(1:Int)=1),decide_eq_true h2];rfl
     subst hE h3;refine zE0 (S:=fun W=>W.cell? ⟨W0.heap.size,0,none⟩=some (.string ccol)∧W.cell? ⟨W0.heap.size,1,none⟩=some (.int .i64 1)∧W.cell? ⟨W0.heap.size,2,none⟩=some (.string cval)∧W.cell? ⟨w.heap.size,2,none⟩=some (.slice (some ⟨cb,co,none⟩) n2 p2)∧W.cell? ⟨cb,co,none⟩=some (.string ccol)) 16 (by kernel_rfl) ?hSrd (fun hHeld=>?rgrd);case hSrd=>exact HS6.out _ (Below.refl _ _).drew
     refine wt 0 ?rda1 [8,3,2,1] ?rdb2 ?rdc3;case rdb2=>intro w hSw;(try dsimp only at hSw);obtain⟨s0,s1,s2,s3,s4⟩:=hSw;go_simp;(try with_reducible rfl)
     try simp only[Act.put,zA,zB,zC,zD,zF]
     refine wt 1 ?rda4 [8,3,2] ?rdb5 ?rdc6;case rdb5=>intro w hSw;(try dsimp only at hSw);obtain⟨s0,s1,s2,s3,s4⟩:=hSw;go_simp;(try with_reducible rfl)
     try simp only[Act.put,zA,zB,zC,zD,zE,zF]
     refine wt 2 ?rda7 [8,3] ?rdb8 ?rdc9;case rdb8=>intro w hSw;(try dsimp only at hSw);obtain⟨s0,s1,s2,s3,s4⟩:=hSw;go_simp;(try with_reducible rfl)
     try simp only[Act.put,zA,zB,zC,zD,zE,zF]
     refine wt 3 ?rda10 [8] ?rdb11 ?rdc12;case rdb11=>intro w hSw;(try dsimp only at hSw);obtain⟨s0,s1,s2,s3,s4⟩:=hSw;go_simp;(try with_reducible rfl)
     try simp only[Act.put,zA,zB,zC,zD,zE,zF]
     refine wt 4 ?rda13 [8,7,6,5] ?rdb14 ?rdc15;case rdb14=>intro w hSw;(try dsimp only at hSw);obtain⟨s0,s1,s2,s3,s4⟩:=hSw;go_simp;(try with_reducible rfl)
     try simp only[Act.put,zA,zB,zC,zD,zE,zF]
     refine wt 5 ?rda16 [8,7,6] ?rdb17 ?rdc18;case rdb17=>intro w hSw;(try dsimp only at hSw);obtain⟨s0,s1,s2,s3,s4⟩:=hSw;go_simp;(try with_reducible rfl)
     try simp only[Act.put,zA,zB,zC,zD,zE,zF]
     refine wt 6 ?rda19 [8,7] ?rdb20 ?rdc21;case rdb20=>intro w hSw;(try dsimp only at hSw);obtain⟨s0,s1,s2,s3,s4⟩:=hSw;go_simp;(try with_reducible rfl)
     try simp only[Act.put,zA,zB,zC,zD,zE,zF]
     refine wt 7 ?rda22 [8] ?rdb23 ?rdc24;case rdb23=>intro w hSw;(try dsimp only at hSw);obtain⟨s0,s1,s2,s3,s4⟩:=hSw;go_simp;(try with_reducible rfl)
     try simp only[Act.put,zA,zB,zC,zD,zE,zF]
     refine wt 8 ?rda25 [] ?rdb26 ?rdc27;case rdb26=>intro w hSw;(try dsimp only at hSw);obtain⟨s0,s1,s2,s3,s4⟩:=hSw;go_simp;(try with_reducible rfl)
     try simp only[Act.put,zA,zB,zC,zD,zE,zF]
     refine wt 9 ?rda28 [15,10] ?rdb29 ?rdc30;case rdb29=>intro w hSw;(try dsimp only at hSw);obtain⟨s0,s1,s2,s3,s4⟩:=hSw;go_simp;(try with_reducible rfl)
     try simp only[Act.put,zA,zB,zC,zD,zE,zF]
     refine wt 10 ?rda31 [15] ?rdb32 ?rdc33;case rdb32=>intro w hSw;(try dsimp only at hSw);obtain⟨s0,s1,s2,s3,s4⟩:=hSw;go_simp;(try with_reducible rfl)
     try simp only[Act.put,zA,zB,zC,zD,zE,zF]
     refine wt 11 ?rda34 [15,14,13,12] ?rdb35 ?rdc36;case rdb35=>intro w hSw;(try dsimp only at hSw);obtain⟨s0,s1,s2,s3,s4⟩:=hSw;go_simp;(try with_reducible rfl)
     try simp only[Act.put,zA,zB,zC,zD,zE,zF]
     refine wt 12 ?rda37 [15,14,13] ?rdb38 ?rdc39;case rdb38=>intro w hSw;(try dsimp only at hSw);obtain⟨s0,s1,s2,s3,s4⟩:=hSw;go_simp;(try with_reducible rfl)
     try simp only[Act.put,zA,zB,zC,zD,zE,zF]
     refine wt 13 ?rda40 [15,14] ?rdb41 ?rdc42;case rdb41=>intro w hSw;(try dsimp only at hSw);obtain⟨s0,s1,s2,s3,s4⟩:=hSw;go_simp;(try with_reducible rfl)
     try simp only[Act.put,zA,zB,zC,zD,zE,zF]
     refine wt 14 ?rda43 [15] ?rdb44 ?rdc45;case rdb44=>intro w hSw;(try dsimp only at hSw);obtain⟨s0,s1,s2,s3,s4⟩:=hSw;go_simp;(try with_reducible rfl)
     try simp only[Act.put,zA,zB,zC,zD,zE,zF]
     refine wt 15 ?rda46 [] ?rdb47 ?rdc48;case rdb47=>intro w hSw;(try dsimp only at hSw);obtain⟨s0,s1,s2,s3,s4⟩:=hSw;go_simp;(try with_reducible rfl)
     try simp only[Act.put,zA,zB,zC,zD,zE,zF]
     refine yA (rs:=[16]) (by kernel_rfl) (by simp) ?_;refine AllReadyE.cons rfl (fun KW hK=>?rdst49) AllReadyE.nil;go_simp;refine hK.out _ _ (fun h=>absurd rfl h) (fun hHeld=>?rdrs51);clear hK KW;try simp only[Act.put,zA,zB,zC,zD,zE,zF]
     refine vE (by kernel_rfl) ?_ _;go_wp2_with fail
     go_meet
     case rel=>exact⟨rfl,(Below.refl _ _).drew⟩
    case rest=>as_aux_lemma =>
    obtain⟨rfl,HBX⟩:=hcut;have hb01:=HB0.out.later (HBN.out.later HBX.out);cases hit
    · have HN2:=zh (HNX.out (by first | rfl | trivial));go_wp2_with fail;go_roundw;case rel=>exact⟨k+1,by omega,by go_num,hb01,HN2.out⟩
      case measure=>simp[intOf];omega
    · have HE:=zh (HRR.out _ (HFI.out (by first | rfl | trivial)));have HPX:=zh (HP1.out.later hb01 HP1.out.lt);have HCX:=zh (HCB.out.later HBX.out HCB.out.lt);have HWX:=zh (HW1.out.later hb01);obtain⟨WX,rfl⟩:∃WX,WX=wc:=⟨wc,rfl⟩;have q0:=HCX.out.cell 0;have q2:=HCX.out.cell 2;simp at q0 q2;have hne:w.heap.size+1+1≠W0.heap.size:=by omega
      clear hb01 x0 x1 x2 zc0 zc1 zc2;have r0:=HPX.out.cell 0;have r1:=HPX.out.cell 1;have r2:=HPX.out.cell 2;have f0:=HPX.out.frozen 0;have f1:=HPX.out.frozen 1;have f2:=HPX.out.frozen 2;have rz:=HPX.out.lt;simp at r0 r1 r2;go_wp2_with fail;refine bodyPost_ret (v:=.tuple #[.agg #[.int .i64 1,.string ccol,.string cval],.int .i64 0]) (by simp[results,Tryz.results20,go_sem,r0,r1,r2]) rfl ?_;exact⟨by rw[HE.out],((HWX.out.setCell (show w.heap.size≤w.heap.size+1+1 by omega) _).setCell (show w.heap.size≤w.heap.size+1+1 by omega) _).setCell (show w.heap.size≤w.heap.size+1+1 by omega) _⟩
  · have hki:¬((k:Int)<(m2:Int)):=by omega
    have HN1:Hid (d.wher.find? (zCa b)=none):=zKG _ _ (fun j hj=>HNO.out j (by have:=HM2.out;omega));go_wp2_with fail;go_loopw [48] (fun i wr=>∃m:Nat,m≤m2∧i=.int .i64 m∧Below w1.heap.size w1 wr∧Hid (∀j,j<m→zCJ b (d.wher.getD j default)=false)) (fun i _=>m2-(intOf i).toNat);case atStart=>exact⟨0,Nat.zero_le _,rfl,HB0.out,fun j hj=>absurd hj (by omega)⟩
    case round =>
     obtain⟨m,hm,rfl,hbw,HNM⟩:=hrel;obtain⟨W9,rfl⟩:∃W9,W9=wr:=⟨wr,rfl⟩;have HB9:=zh hbw;have HX9:=zh (HB1.out.later hbw);have HW9:=zh (HW1.out.later hbw);have hw9:=HX9.out.size;clear hbw x0 x1 x2;obtain⟨x0,x1,x2⟩:=HSA.out _ HX9.out;have hwz0:w.heap.size<W9.heap.size:=by omega
     have hwz1:w.heap.size+1<W9.heap.size:=by omega
     have hwz2:w.heap.size+1+1<W9.heap.size:=by omega
     by_cases hlm:m<m2
     · have hmi:(m:Int)<(m2:Int):=by omega
       obtain⟨qb,qo,rfl,hqb,hqc⟩:=(HCW.out _ HW9.out).2 (by omega);obtain⟨z0,z1,z2,zc0,zc1,zc2,rfl,rfl,rfl⟩:=hqc m hlm;have HFI:Hid (zCJ b (d.wher.getD m default)=true→d.wher.find? (zCJ b)=some (d.wher.getD m default)):=fun h=>zHg _ _ m (by rw[HM2.out];exact hlm) HNM.out h;have HHK:=zh (HH2.out (d.wher.getD m default))
       have HNX:Hid (zCJ b (d.wher.getD m default)=false→∀j,j<m+1→zCJ b (d.wher.getD j default)=false):=fun h j hj=>by
        rcases Nat.lt_or_ge j m with h1 | h1
        · exact HNM.out j h1
        · obtain rfl:j=m:=by omega
          exact h
       have HRR:=zh (HR2.out (by first | rfl | trivial) HN1.out);clear hqc;generalize d.wher.getD m default=cd at *;obtain⟨ccol,cop,cval⟩:=cd;dsimp only at HHK zc0 zc1 zc2;generalize zCJ b ⟨ccol,cop,cval⟩=hit at *;have HBN:=zh (Below.new W9 (.cells #[.string ccol,.int .i64 cop,.string cval] 44));have HKI9:=zh (HKI.out ccol _ (HW9.out.later HBN.out));generalize hpi:decide (0≤xA b.idx ccol)=pi at *;by_cases h1:cop=1
       case neg =>
        have HE:Hid (hit=false):=by unfold Hid;rw[HHK.out,decide_eq_false h1];rfl
        have hb1:(cop==1)=false:=beq_eq_false_iff_ne.2 h1;have HN2:=zh (HNX.out HE.out);go_wp2_with fail;go_roundw;case rel=>exact⟨m+1,by omega,by go_num,HB9.out.later HBN.out,HN2.out⟩
        case measure=>simp[intOf];omega
       subst h1;by_cases h2:cval=⟨#[]⟩
       case pos =>
        have HE:Hid (hit=false):=by unfold Hid;rw[HHK.out,h2];simp
        have HN2:=zh (HNX.out HE.out);subst h2;go_wp2_with fail;go_roundw;case rel=>exact⟨m+1,by omega,by go_num,HB9.out.later HBN.out,HN2.out⟩
        case measure=>simp[intOf];omega
       have HE:Hid (hit=pi):=by unfold Hid;rw[HHK.out,decide_eq_true (rfl:(1:Int)=1),decide_eq_true h2];rfl
       have hb2:=yJ h2
       have hb3:(!cval.toList.isEmpty)=true:=by
        have h1:(⟨#[]⟩:ByteArray).toList=[]:=by first | rfl | simp | decide
        rw[h1]at hb2;revert hb2;cases cval.toList <;> simp
       have hb4:cval.toList.isEmpty=false:=by revert hb3;cases cval.toList.isEmpty <;> simp
       have hb5:=zAh h2;clear hb2 hpi h2;go_wp2_with fail;refine HKI9.out.mono ?_;rintro e w9 ⟨rfl,rfl⟩;cases pi
       · have HN2:=zh (HNX.out HE.out);go_wp2_with fail;go_roundw;case rel=>exact⟨m+1,by omega,by go_num,HB9.out.later HBN.out,HN2.out⟩
         case measure=>simp[intOf];omega
       · have HEE:=zh (HRR.out _ (HFI.out HE.out));have HPX:=zh (HP1.out.later HB9.out HP1.out.lt);have hne:w.heap.size+1+1≠W9.heap.size:=by omega
         clear x0 x1 x2 zc0 zc1 zc2;have r0:=HPX.out.cell 0;have r1:=HPX.out.cell 1;have r2:=HPX.out.cell 2;have f0:=HPX.out.frozen 0;have f1:=HPX.out.frozen 1;have f2:=HPX.out.frozen 2;have rz:=HPX.out.lt;simp at r0 r1 r2;go_wp2_with fail;refine bodyPost_ret (v:=.tuple #[.agg #[.int .i64 2,.string ccol,.string cval],.int .i64 0]) (by simp[results,Tryz.results20,go_sem,r0,r1,r2,World.cell?_alloc_lt,hwz2]) rfl ?_;exact⟨by rw[HEE.out],(((HW9.out.setCell (show w.heap.size≤w.heap.size+1+1 by omega) _).setCell (show w.heap.size≤w.heap.size+1+1 by omega) _).setCell (show w.heap.size≤w.heap.size+1+1 by omega) _).later (Below.new _ _)⟩
     · have hmi:¬((m:Int)<(m2:Int)):=by omega
       have HN2:Hid (d.wher.find? (zCJ b)=none):=zKG _ _ (fun j hj=>HNM.out j (by have:=HM2.out;omega));have HE:=zh (HR3.out (by first | rfl | trivial) HN1.out HN2.out);have HPX:=zh (HP1.out.later HB9.out HP1.out.lt);clear x0 x1 x2;have r0:=HPX.out.cell 0;have r1:=HPX.out.cell 1;have r2:=HPX.out.cell 2;have f0:=HPX.out.frozen 0;have f1:=HPX.out.frozen 1;have f2:=HPX.out.frozen 2;have rz:=HPX.out.lt;simp at r0 r1 r2;go_wp2_with fail;refine bodyPost_ret (v:=.tuple #[.agg #[.int .i64 3,.string ⟨#[]⟩,.string ⟨#[]⟩],.int .i64 0]) (by simp[results,Tryz.results20,go_sem,r0,r1,r2]) rfl ?_;exact⟨by rw[HE.out],((HW9.out.setCell (show w.heap.size≤w.heap.size+1+1 by omega) _).setCell (show w.heap.size≤w.heap.size+1+1 by omega) _).setCell (show w.heap.size≤w.heap.size+1+1 by omega) _⟩
end Go.Proofs.YtfpcjhajjejpdaaGreatDoor
