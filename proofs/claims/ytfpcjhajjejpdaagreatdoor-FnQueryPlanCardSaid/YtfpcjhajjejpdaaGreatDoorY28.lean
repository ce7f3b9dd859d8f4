import Derived.Test.YtfpcjhajjejpdaaGreatDoorY27
import Derived.Test.YtfpcjhajjejpdaaGreatDoorY26
open Go.Lib renaming hid → zh
open List renaming getElem_cons_succ → zE, getElem_cons_zero → zF, getElem_toArray → zD, setIfInBounds_toArray → zA, set_cons_succ → zC, set_cons_zero → zB
namespace Go.Proofs.YtfpcjhajjejpdaaGreatDoor
open Go.RowKit
set_option linter.unusedVariables false
def zNX (w:World) (e:Ending) (w':World):Prop:=∃k c v,e=.returned (.agg #[.int .i64 k,.string c,.string v])∧(c.size≤16∧v.size≤16)∧Below w.heap.size w w'
set_option maxRecDepth 100000 in
set_option maxHeartbeats 40000000 in
theorem zHZ (b0 b1 b2 b3 c0 c1 c2 c3 c4 c5:Value) (b:TableD) (d:QueryD) (w:World) (hb:TableR w w.heap.size b0 b1 b2 b3 b) (h:QueryR w w.heap.size c0 c1 c2 c3 c4 c5 d) (hpos:0<b.cols.length) (hix:b.idx.length≤1048576) (hwl:d.wher.length≤1048576) (hws:∀x∈d.wher,x.col.size≤16∧x.val.size≤16) :
 Calls Tryz.prog 130 #[.agg #[b0,b1,b2,b3],.agg #[c0,c1,c2,c3,c4,c5]] w (zNX w):=by
 obtain⟨rfl,rfl,⟨A2,n2,p2,rfl,s2,k2⟩,⟨A3,n3,p3,rfl,s3,k3⟩⟩:=hb;obtain⟨rfl,⟨B1,m1,q1,rfl,t1,l1⟩,⟨B2,m2,q2,rfl,t2,l2⟩,rfl,rfl,rfl⟩:=h;have hn3:n3≤1048576:=by rw[←s3.1];exact hix
 have hm2:m2≤1048576:=by rw[←t2.1];exact hwl
 rw[s2.1]at hpos;have HM2:Hid (d.wher.length=m2):=t2.1;have HWS:=zh (fun j (hj:j<d.wher.length)=>hws _ (zX0 d.wher j hj));have HCW:=zh (fun W (hW:Below w.heap.size w W)=>t2.later hW);have HKI:=zh (fun x W (hW:Below w.heap.size w W)=>yE A3 n3 p3 b.idx x W (s3.later hW) hn3);obtain⟨cb,co,rfl,hcb,hcc⟩:=s2.2 hpos;have hk0:=hcc 0 hpos;rw[Nat.add_zero]at hk0;have HKEY:=zh (fun W (hW:Below w.heap.size w W)=>cell_later hW hk0);obtain⟨WB,hWB⟩:∃WB,WB=((w.alloc (.cells #[.string b.name,.string b.glob,.slice (some ⟨cb,co,none⟩) n2 p2,.slice A3 n3 p3] 29)).alloc (.cells #[.string d.table,.slice B1 m1 q1,.slice B2 m2 q2,.string d.order,.bool d.desc,.int .i64 d.limit] 32)).alloc (.cells #[.int .i64 0,.string ⟨#[]⟩,.string ⟨#[]⟩] 49):=⟨_,rfl⟩;have HBB:Hid (Below w.heap.size w WB):=by subst hWB;exact yG w _ _ _
 have HT0:Hid (Blk WB w.heap.size 29 #[.string b.name,.string b.glob,.slice (some ⟨cb,co,none⟩) n2 p2,.slice A3 n3 p3]):=by subst hWB;exact zK0 _ _ _ _
 have HQ0:Hid (Blk WB (w.heap.size+1) 32 #[.string d.table,.slice B1 m1 q1,.slice B2 m2 q2,.string d.order,.bool d.desc,.int .i64 d.limit]):=by subst hWB;exact vG _ _ _ _
 have HP0:Hid (Blk WB (w.heap.size+1+1) 49 #[.int .i64 0,.string ⟨#[]⟩,.string ⟨#[]⟩]):=by subst hWB;exact zG0 _ _ _ _
 have HSA:Hid (∀W,Below WB.heap.size WB W→(W.cell? ⟨w.heap.size,2,none⟩=some (.slice (some ⟨cb,co,none⟩) n2 p2)∧W.cell? ⟨w.heap.size,3,none⟩=some (.slice A3 n3 p3)∧W.cell? ⟨w.heap.size+1,2,none⟩=some (.slice B2 m2 q2))):=fun W hW=>⟨(HT0.out.later hW HT0.out.lt).at 2 rfl,(HT0.out.later hW HT0.out.lt).at 3 rfl,(HQ0.out.later hW HQ0.out.lt).at 2 rfl⟩;have hwb:w.heap.size+1+1<WB.heap.size:=HP0.out.lt;clear s2 s3 t1 t2 hws hwl hix hcc hk0 HT0 HQ0;generalize b.cols.getD 0 ByteArray.empty=key at *;generalize b.name=nm at *;generalize b.glob=gl at *;generalize d.table=tb at *;generalize d.order=od at *;generalize d.desc=ds at *;generalize d.limit=lm at *;obtain⟨x0,x1,x2⟩:=HSA.out _ (Below.refl _ _);go_enter Tryz.func130,Tryz.ntmps130;go_wp2_with fail;(try rw[←hWB]);clear hWB;go_loopw [5] (fun i wr=>∃kd:Nat,1≤kd∧kd≤3∧i=.int .i64 kd∧Below WB.heap.size WB wr) (fun i _=>3-(intOf i).toNat);case atStart=>exact⟨1,by omega,by omega,rfl,Below.refl _ _⟩
 case round =>
  obtain⟨kd,hkd1,hkd3,rfl,hbw⟩:=hrel;obtain⟨W5,rfl⟩:∃W5,W5=wr:=⟨wr,rfl⟩;have HX5:=zh hbw;clear hbw x0 x1 x2;obtain⟨x0,x1,x2⟩:=HSA.out _ HX5.out;by_cases hk2:kd≤2
  case neg =>
   have hki:¬((kd:Int)≤2):=by omega
   have HPX:=zh (HP0.out.later HX5.out HP0.out.lt);have HWX:=zh (HBB.out.later HX5.out);clear x0 x1 x2;have r0:=HPX.out.cell 0;have r1:=HPX.out.cell 1;have r2:=HPX.out.cell 2;have f0:=HPX.out.frozen 0;have f1:=HPX.out.frozen 1;have f2:=HPX.out.frozen 2;have rz:=HPX.out.lt;simp at r0 r1 r2;go_wp2_with fail;refine bodyPost_ret (v:=.agg #[.int .i64 3,.string ⟨#[]⟩,.string ⟨#[]⟩]) (by simp[results,Tryz.results130,go_sem,r0,r1,r2]) rfl ?_;exact⟨_,_,_,rfl,⟨by decide,by decide⟩,((HWX.out.setCell (show w.heap.size≤w.heap.size+1+1 by omega) _).setCell (show w.heap.size≤w.heap.size+1+1 by omega) _).setCell (show w.heap.size≤w.heap.size+1+1 by omega) _⟩
  have hki:(kd:Int)≤2:=by omega
  go_wp2_with fail;go_loopw [6] (fun i wr=>∃k:Nat,k≤m2∧i=.int .i64 k∧Below W5.heap.size W5 wr) (fun i _=>m2-(intOf i).toNat);case atStart=>exact⟨0,Nat.zero_le _,rfl,Below.refl _ _⟩
  case round =>
   obtain⟨k,hk,rfl,hbw⟩:=hrel;obtain⟨W0,rfl⟩:∃W0,W0=wr:=⟨wr,rfl⟩;have HB0:=zh hbw;have HX0:=zh (HX5.out.later hbw);have HW0:=zh (HBB.out.later HX0.out);have hw0:=HX0.out.size;clear hbw x0 x1 x2;obtain⟨x0,x1,x2⟩:=HSA.out _ HX0.out;have hwz0:w.heap.size<W0.heap.size:=by omega
   have hwz1:w.heap.size+1<W0.heap.size:=by omega
   have hwz2:w.heap.size+1+1<W0.heap.size:=by omega
   by_cases hlt:k<m2
   case neg =>
    have hkn:¬((k:Int)<(m2:Int)):=by omega
    go_wp2_with fail;go_roundw;case rel=>exact⟨kd+1,by omega,by omega,by go_num,HX0.out⟩
    case measure=>simp[intOf];omega
   have hkn:(k:Int)<(m2:Int):=by omega
   obtain⟨qb,qo,rfl,hqb,hqc⟩:=(HCW.out _ HW0.out).2 (by omega);obtain⟨z0,z1,z2,zc0,zc1,zc2,rfl,rfl,rfl⟩:=hqc k hlt;obtain⟨hs1,hs2⟩:=HWS.out k (by rw[HM2.out];exact hlt);clear hqc;generalize d.wher.getD k default=cd at *;obtain⟨ccol,cop,cval⟩:=cd;dsimp only at zc0 zc1 zc2 hs1 hs2;have HSZ:=zh (And.intro hs1 hs2);clear hs1 hs2;have HBN:=zh (Below.new W0 (.cells #[.string ccol,.int .i64 cop,.string cval] 44));by_cases h1:cop=1
   case neg =>
    have hb1:(cop != 1)=true:=by simp[bne,beq_eq_false_iff_ne.2 h1]
    go_wp2_with fail;go_roundw;case rel=>exact⟨k+1,by omega,by go_num,HB0.out.later HBN.out⟩
    case measure=>simp[intOf];omega
   subst h1;by_cases h2:cval=⟨#[]⟩
   case pos =>
    subst h2;go_wp2_with fail;go_roundw;case rel=>exact⟨k+1,by omega,by go_num,HB0.out.later HBN.out⟩
    case measure=>simp[intOf];omega
   have hb2:=yJ h2
   have hb3:(!cval.toList.isEmpty)=true:=by
    have h1:(⟨#[]⟩:ByteArray).toList=[]:=by first | rfl | simp | decide
    rw[h1]at hb2;revert hb2;cases cval.toList <;> simp
   have hb4:cval.toList.isEmpty=false:=by revert hb3;cases cval.toList.isEmpty <;> simp
   have hb5:=zAh h2;clear hb2 h2;obtain⟨W1,hW1⟩:∃W1,W1=W0.alloc (.cells #[.string ccol,.int .i64 1,.string cval] 44):=⟨_,rfl⟩;have HBN1:Hid (Below W0.heap.size W0 W1):=by subst hW1;exact Below.new _ _
   have HCB:Hid (Blk W1 W0.heap.size 44 #[.string ccol,.int .i64 1,.string cval]):=by subst hW1;exact heap_alloc_new _ _
   have HS9:Hid (∀W,Below W1.heap.size W1 W→(W.cell? ⟨W0.heap.size,0,none⟩=some (.string ccol)∧W.cell? ⟨w.heap.size,2,none⟩=some (.slice (some ⟨cb,co,none⟩) n2 p2)∧W.cell? ⟨w.heap.size,3,none⟩=some (.slice A3 n3 p3)∧W.cell? ⟨cb,co,none⟩=some (.string key))):=fun W hW=>⟨(HCB.out.later hW HCB.out.lt).at 0 rfl,(HSA.out _ (HX0.out.later (HBN1.out.later hW))).1,(HSA.out _ (HX0.out.later (HBN1.out.later hW))).2.1,HKEY.out _ (HBB.out.later (HX0.out.later (HBN1.out.later hW)))⟩;have HKI1:=zh (fun W (hW:Below W1.heap.size W1 W)=>HKI.out ccol W (HBB.out.later (HX0.out.later (HBN1.out.later hW))));generalize xA b.idx ccol=pi at *
   go_upto_region 9 with fail
   (try rw[←hW1]);clear hW1
   go_cut [54] (fun v wx=>∃hit:Bool,v=.bool hit∧Hid (Below W1.heap.size W1 wx))
   case first=>as_aux_lemma =>
    clear x0 x1 x2 zc0 zc1 zc2 hb3 hb4 hb5;obtain hkk | hkk:kd=1∨kd=2:=by omega
    · subst hkk;by_cases h3:ccol=key
      case neg =>
       have hb4:=zB0 h3;refine zE0 (S:=fun W=>W.cell? ⟨W0.heap.size,0,none⟩=some (.string ccol)∧W.cell? ⟨w.heap.size,2,none⟩=some (.slice (some ⟨cb,co,none⟩) n2 p2)∧W.cell? ⟨w.heap.size,3,none⟩=some (.slice A3 n3 p3)∧W.cell? ⟨cb,co,none⟩=some (.string key)) 22 (by kernel_rfl) ?hSra (fun hHeld=>?rgra);case hSra=>exact HS9.out _ (Below.refl _ _).drew
       refine wt 0 ?raa1 [11,2,1] ?rab2 ?rac3;case rab2=>intro w hSw;(try dsimp only at hSw);obtain⟨s0,s1,s2,s3⟩:=hSw;go_simp;(try with_reducible rfl)
       try simp only[Act.put,zA,zB,zC,zD,zF]
       refine wt 1 ?raa4 [11,2] ?rab5 ?rac6;case rab5=>intro w hSw;(try dsimp only at hSw);obtain⟨s0,s1,s2,s3⟩:=hSw;go_simp;(try with_reducible rfl)
       try simp only[Act.put,zA,zB,zC,zD,zE,zF]
       refine wt 2 ?raa7 [11] ?rab8 ?rac9;case rab8=>intro w hSw;(try dsimp only at hSw);obtain⟨s0,s1,s2,s3⟩:=hSw;go_simp;(try with_reducible rfl)
       try simp only[Act.put,zA,zB,zC,zD,zE,zF]
       refine wt 3 ?raa10 [11,10,9,4] ?rab11 ?rac12;case rab11=>intro w hSw;(try dsimp only at hSw);obtain⟨s0,s1,s2,s3⟩:=hSw;go_simp;(try with_reducible rfl)
       try simp only[Act.put,zA,zB,zC,zD,zE,zF]
       refine wt 4 ?raa13 [11,10,9] ?rab14 ?rac15;case rab14=>intro w hSw;(try dsimp only at hSw);obtain⟨s0,s1,s2,s3⟩:=hSw;go_simp;(try with_reducible rfl)
       try simp only[Act.put,zA,zB,zC,zD,zE,zF]
       refine wt 5 ?raa16 [11,10,9,8,7,6] ?rab17 ?rac18;case rab17=>intro w hSw;(try dsimp only at hSw);obtain⟨s0,s1,s2,s3⟩:=hSw;go_simp;(try with_reducible rfl)
       try simp only[Act.put,zA,zB,zC,zD,zE,zF]
       refine wt 6 ?raa19 [11,10,9,8,7] ?rab20 ?rac21;case rab20=>intro w hSw;(try dsimp only at hSw);obtain⟨s0,s1,s2,s3⟩:=hSw;go_simp;(try with_reducible rfl)
       try simp only[Act.put,zA,zB,zC,zD,zE,zF]
       refine wt 7 ?raa22 [11,10,9,8] ?rab23 ?rac24;case rab23=>intro w hSw;(try dsimp only at hSw);obtain⟨s0,s1,s2,s3⟩:=hSw;go_simp;(try with_reducible rfl)
       try simp only[Act.put,zA,zB,zC,zD,zE,zF]
       refine wt 8 ?raa25 [11,10,9] ?rab26 ?rac27;case rab26=>intro w hSw;(try dsimp only at hSw);obtain⟨s0,s1,s2,s3⟩:=hSw;go_simp;(try with_reducible rfl)
       try simp only[Act.put,zA,zB,zC,zD,zE,zF]
       refine wt 9 ?raa28 [11,10] ?rab29 ?rac30;case rab29=>intro w hSw;(try dsimp only at hSw);obtain⟨s0,s1,s2,s3⟩:=hSw;go_simp;(try with_reducible rfl)
       try simp only[Act.put,zA,zB,zC,zD,zE,zF]
       refine wt 10 ?raa31 [11] ?rab32 ?rac33;case rab32=>intro w hSw;(try dsimp only at hSw);obtain⟨s0,s1,s2,s3⟩:=hSw;go_simp;(try with_reducible rfl)
       try simp only[Act.put,zA,zB,zC,zD,zE,zF]
       refine wt 11 ?raa34 [] ?rab35 ?rac36;case rab35=>intro w hSw;(try dsimp only at hSw);obtain⟨s0,s1,s2,s3⟩:=hSw;go_simp;(try with_reducible rfl)
       try simp only[Act.put,zA,zB,zC,zD,zE,zF]
       refine wt 12 ?raa37 [21,14,13] ?rab38 ?rac39;case rab38=>intro w hSw;(try dsimp only at hSw);obtain⟨s0,s1,s2,s3⟩:=hSw;go_simp;(try with_reducible rfl)
       try simp only[Act.put,zA,zB,zC,zD,zE,zF]
       refine wt 13 ?raa40 [21,14] ?rab41 ?rac42;case rab41=>intro w hSw;(try dsimp only at hSw);obtain⟨s0,s1,s2,s3⟩:=hSw;go_simp;(try with_reducible rfl)
       try simp only[Act.put,zA,zB,zC,zD,zE,zF]
       refine wt 14 ?raa43 [21] ?rab44 ?rac45;case rab44=>intro w hSw;(try dsimp only at hSw);obtain⟨s0,s1,s2,s3⟩:=hSw;go_simp;(try with_reducible rfl)
       try simp only[Act.put,zA,zB,zC,zD,zE,zF]
       refine wu 15 [21,20,19,16] ?rac46;try simp only[Act.put,zA,zB,zC,zD,zE,zF]
       refine wu 16 [21,20,19] ?rac47;try simp only[Act.put,zA,zB,zC,zD,zE,zF]
       refine wu 17 [21,20,19,18] ?rac48;try simp only[Act.put,zA,zB,zC,zD,zE,zF]
       refine wu 18 [21,20,19] ?rac49;try simp only[Act.put,zA,zB,zC,zD,zE,zF]
       refine wu 19 [21,20] ?rac50;try simp only[Act.put,zA,zB,zC,zD,zE,zF]
       refine wu 20 [21] ?rac51;try simp only[Act.put,zA,zB,zC,zD,zE,zF]
       refine wt 21 ?raa52 [] ?rab53 ?rac54;case rab53=>intro w hSw;(try dsimp only at hSw);obtain⟨s0,s1,s2,s3⟩:=hSw;go_simp;(try with_reducible rfl)
       try simp only[Act.put,zA,zB,zC,zD,zE,zF]
       refine yA (rs:=[22]) (by kernel_rfl) (by simp) ?_;refine AllReadyE.cons rfl (fun KW hK=>?rast55) AllReadyE.nil;go_simp;refine hK.out _ _ (fun h=>absurd rfl h) (fun hHeld=>?rars57);clear hK KW;try simp only[Act.put,zA,zB,zC,zD,zE,zF]
       refine vE (by kernel_rfl) ?_ _;go_wp2_with fail
       go_meet
       case rel=>exact⟨false,rfl,(Below.refl _ _).drew⟩
      subst h3;refine zE0 (S:=fun W=>W.cell? ⟨W0.heap.size,0,none⟩=some (.string ccol)∧W.cell? ⟨w.heap.size,2,none⟩=some (.slice (some ⟨cb,co,none⟩) n2 p2)∧W.cell? ⟨w.heap.size,3,none⟩=some (.slice A3 n3 p3)∧W.cell? ⟨cb,co,none⟩=some (.string ccol)) 22 (by kernel_rfl) ?hSrb (fun hHeld=>?rgrb);case hSrb=>exact HS9.out _ (Below.refl _ _).drew
      refine wt 0 ?rba1 [11,2,1] ?rbb2 ?rbc3;case rbb2=>intro w hSw;(try dsimp only at hSw);obtain⟨s0,s1,s2,s3⟩:=hSw;go_simp;(try with_reducible rfl)
      try simp only[Act.put,zA,zB,zC,zD,zF]
      refine wt 1 ?rba4 [11,2] ?rbb5 ?rbc6;case rbb5=>intro w hSw;(try dsimp only at hSw);obtain⟨s0,s1,s2,s3⟩:=hSw;go_simp;(try with_reducible rfl)
      try simp only[Act.put,zA,zB,zC,zD,zE,zF]
      refine wt 2 ?rba7 [11] ?rbb8 ?rbc9;case rbb8=>intro w hSw;(try dsimp only at hSw);obtain⟨s0,s1,s2,s3⟩:=hSw;go_simp;(try with_reducible rfl)
      try simp only[Act.put,zA,zB,zC,zD,zE,zF]
      refine wt 3 ?rba10 [11,10,9,4] ?rbb11 ?rbc12;case rbb11=>intro w hSw;(try dsimp only at hSw);obtain⟨s0,s1,s2,s3⟩:=hSw;go_simp;(try with_reducible rfl)
      try simp only[Act.put,zA,zB,zC,zD,zE,zF]
      refine wt 4 ?rba13 [11,10,9] ?rbb14 ?rbc15;case rbb14=>intro w hSw;(try dsimp only at hSw);obtain⟨s0,s1,s2,s3⟩:=hSw;go_simp;(try with_reducible rfl)
      try simp only[Act.put,zA,zB,zC,zD,zE,zF]
      refine wt 5 ?rba16 [11,10,9,8,7,6] ?rbb17 ?rbc18;case rbb17=>intro w hSw;(try dsimp only at hSw);obtain⟨s0,s1,s2,s3⟩:=hSw;go_simp;(try with_reducible rfl)
      try simp only[Act.put,zA,zB,zC,zD,zE,zF]
      refine wt 6 ?rba19 [11,10,9,8,7] ?rbb20 ?rbc21;case rbb20=>intro w hSw;(try dsimp only at hSw);obtain⟨s0,s1,s2,s3⟩:=hSw;go_simp;(try with_reducible rfl)
      try simp only[Act.put,zA,zB,zC,zD,zE,zF]
      refine wt 7 ?rba22 [11,10,9,8] ?rbb23 ?rbc24;case rbb23=>intro w hSw;(try dsimp only at hSw);obtain⟨s0,s1,s2,s3⟩:=hSw;go_simp;(try with_reducible rfl)
      try simp only[Act.put,zA,zB,zC,zD,zE,zF]
      refine wt 8 ?rba25 [11,10,9] ?rbb26 ?rbc27;case rbb26=>intro w hSw;(try dsimp only at hSw);obtain⟨s0,s1,s2,s3⟩:=hSw;go_simp;(try with_reducible rfl)
      try simp only[Act.put,zA,zB,zC,zD,zE,zF]
      refine wt 9 ?rba28 [11,10] ?rbb29 ?rbc30;case rbb29=>intro w hSw;(try dsimp only at hSw);obtain⟨s0,s1,s2,s3⟩:=hSw;go_simp;(try with_reducible rfl)
      try simp only[Act.put,zA,zB,zC,zD,zE,zF]
      refine wt 10 ?rba31 [11] ?rbb32 ?rbc33;case rbb32=>intro w hSw;(try dsimp only at hSw);obtain⟨s0,s1,s2,s3⟩:=hSw;go_simp;(try with_reducible rfl)
      try simp only[Act.put,zA,zB,zC,zD,zE,zF]
      refine wt 11 ?rba34 [] ?rbb35 ?rbc36;case rbb35=>intro w hSw;(try dsimp only at hSw);obtain⟨s0,s1,s2,s3⟩:=hSw;go_simp;(try with_reducible rfl)
      try simp only[Act.put,zA,zB,zC,zD,zE,zF]
      refine wu 12 [21,14,13] ?rbc37;try simp only[Act.put,zA,zB,zC,zD,zE,zF]
      refine wu 13 [21,14] ?rbc38;try simp only[Act.put,zA,zB,zC,zD,zE,zF]
      refine wu 14 [21] ?rbc39;try simp only[Act.put,zA,zB,zC,zD,zE,zF]
      refine wu 15 [21,20,19,16] ?rbc40;try simp only[Act.put,zA,zB,zC,zD,zE,zF]
      refine wu 16 [21,20,19] ?rbc41;try simp only[Act.put,zA,zB,zC,zD,zE,zF]
      refine wu 17 [21,20,19,18] ?rbc42;try simp only[Act.put,zA,zB,zC,zD,zE,zF]
      refine wu 18 [21,20,19] ?rbc43;try simp only[Act.put,zA,zB,zC,zD,zE,zF]
      refine wu 19 [21,20] ?rbc44;try simp only[Act.put,zA,zB,zC,zD,zE,zF]
      refine wu 20 [21] ?rbc45;try simp only[Act.put,zA,zB,zC,zD,zE,zF]
      refine wu 21 [] ?rbc46;try simp only[Act.put,zA,zB,zC,zD,zE,zF]
      refine yA (rs:=[22]) (by kernel_rfl) (by simp) ?_;refine AllReadyE.cons rfl (fun KW hK=>?rbst47) AllReadyE.nil;go_simp;refine hK.out _ _ (fun h=>absurd rfl h) (fun hHeld=>?rbrs49);clear hK KW;try simp only[Act.put,zA,zB,zC,zD,zE,zF]
      refine vE (by kernel_rfl) ?_ _;go_wp2_with fail
      go_meet
      case rel=>exact⟨true,rfl,(Below.refl _ _).drew⟩
    · subst hkk;by_cases h3:0≤pi
      case neg =>
       have hd:decide (0≤pi)=false:=decide_eq_false h3;have hd2:decide (pi≥0)=false:=decide_eq_false h3;refine zE0 (S:=fun W=>W.cell? ⟨W0.heap.size,0,none⟩=some (.string ccol)∧W.cell? ⟨w.heap.size,2,none⟩=some (.slice (some ⟨cb,co,none⟩) n2 p2)∧W.cell? ⟨w.heap.size,3,none⟩=some (.slice A3 n3 p3)∧W.cell? ⟨cb,co,none⟩=some (.string key)) 22 (by kernel_rfl) ?hSrc (fun hHeld=>?rgrc);case hSrc=>exact HS9.out _ (Below.refl _ _).drew
       refine wt 0 ?rca1 [11,2,1] ?rcb2 ?rcc3;case rcb2=>intro w hSw;(try dsimp only at hSw);obtain⟨s0,s1,s2,s3⟩:=hSw;go_simp;(try with_reducible rfl)
       try simp only[Act.put,zA,zB,zC,zD,zF]
       refine wt 1 ?rca4 [11,2] ?rcb5 ?rcc6;case rcb5=>intro w hSw;(try dsimp only at hSw);obtain⟨s0,s1,s2,s3⟩:=hSw;go_simp;(try with_reducible rfl)
       try simp only[Act.put,zA,zB,zC,zD,zE,zF]
       refine wt 2 ?rca7 [11] ?rcb8 ?rcc9;case rcb8=>intro w hSw;(try dsimp only at hSw);obtain⟨s0,s1,s2,s3⟩:=hSw;go_simp;(try with_reducible rfl)
       try simp only[Act.put,zA,zB,zC,zD,zE,zF]
       refine wu 3 [11,10,9,4] ?rcc10;try simp only[Act.put,zA,zB,zC,zD,zE,zF]
       refine wu 4 [11,10,9] ?rcc11;try simp only[Act.put,zA,zB,zC,zD,zE,zF]
       refine wu 5 [11,10,9,8,7,6] ?rcc12;try simp only[Act.put,zA,zB,zC,zD,zE,zF]
       refine wu 6 [11,10,9,8,7] ?rcc13;try simp only[Act.put,zA,zB,zC,zD,zE,zF]
       refine wu 7 [11,10,9,8] ?rcc14;try simp only[Act.put,zA,zB,zC,zD,zE,zF]
       refine wu 8 [11,10,9] ?rcc15;try simp only[Act.put,zA,zB,zC,zD,zE,zF]
       refine wu 9 [11,10] ?rcc16;try simp only[Act.put,zA,zB,zC,zD,zE,zF]
       refine wt 10 ?rca17 [11] ?rcb18 ?rcc19;case rcb18=>intro w hSw;(try dsimp only at hSw);obtain⟨s0,s1,s2,s3⟩:=hSw;go_simp;(try with_reducible rfl)
       try simp only[Act.put,zA,zB,zC,zD,zE,zF]
       refine wt 11 ?rca20 [] ?rcb21 ?rcc22;case rcb21=>intro w hSw;(try dsimp only at hSw);obtain⟨s0,s1,s2,s3⟩:=hSw;go_simp;(try with_reducible rfl)
       try simp only[Act.put,zA,zB,zC,zD,zE,zF]
       refine wt 12 ?rca23 [21,14,13] ?rcb24 ?rcc25;case rcb24=>intro w hSw;(try dsimp only at hSw);obtain⟨s0,s1,s2,s3⟩:=hSw;go_simp;(try with_reducible rfl)
       try simp only[Act.put,zA,zB,zC,zD,zE,zF]
       refine wt 13 ?rca26 [21,14] ?rcb27 ?rcc28;case rcb27=>intro w hSw;(try dsimp only at hSw);obtain⟨s0,s1,s2,s3⟩:=hSw;go_simp;(try with_reducible rfl)
       try simp only[Act.put,zA,zB,zC,zD,zE,zF]
       refine wt 14 ?rca29 [21] ?rcb30 ?rcc31;case rcb30=>intro w hSw;(try dsimp only at hSw);obtain⟨s0,s1,s2,s3⟩:=hSw;go_simp;(try with_reducible rfl)
       try simp only[Act.put,zA,zB,zC,zD,zE,zF]
       refine wt 15 ?rca32 [21,20,19,16] ?rcb33 ?rcc34;case rcb33=>intro w hSw;(try dsimp only at hSw);obtain⟨s0,s1,s2,s3⟩:=hSw;go_simp;(try with_reducible rfl)
       try simp only[Act.put,zA,zB,zC,zD,zE,zF]
       refine wt 16 ?rca35 [21,20,19] ?rcb36 ?rcc37;case rcb36=>intro w hSw;(try dsimp only at hSw);obtain⟨s0,s1,s2,s3⟩:=hSw;go_simp;(try with_reducible rfl)
       try simp only[Act.put,zA,zB,zC,zD,zE,zF]
       refine wt 17 ?rca38 [21,20,19,18] ?rcb39 ?rcc40;case rcb39=>intro w hSw;(try dsimp only at hSw);obtain⟨s0,s1,s2,s3⟩:=hSw;go_simp;(try with_reducible rfl)
       try simp only[Act.put,zA,zB,zC,zD,zE,zF]
       refine wt 18 ?rca41 [21,20,19] ?rcb42 ?rcc43;case rcb42=>intro w hSw;(try dsimp only at hSw);obtain⟨s0,s1,s2,s3⟩:=hSw;go_simp;(try with_reducible rfl)
       try simp only[Act.put,zA,zB,zC,zD,zE,zF]
       refine yA (rs:=[19]) (by kernel_rfl) (by simp) ?_;refine AllReadyE.cons rfl (fun KW hK=>?rcst44) AllReadyE.nil;go_simp;refine(HKI1.out _ (by exact(Below.refl _ _).drew)).mono ?_;rintro e wb ⟨rfl,rfl⟩;try go_wp2_with fail
       refine hK.out _ _ (fun _=>?rcke45) (fun hHeld'=>?rcrs46);case rcke45=>exact HS9.out _ (Below.refl _ _).drew
       have hHeld:=hHeld' (by decide);clear hHeld';clear hK KW;try simp only[Act.put,zA,zB,zC,zD,zE,zF]
       refine wt 20 ?rca47 [21] ?rcb48 ?rcc49;case rcb48=>intro w hSw;(try dsimp only at hSw);obtain⟨s0,s1,s2,s3⟩:=hSw;go_simp;(try with_reducible rfl)
       try simp only[Act.put,zA,zB,zC,zD,zE,zF]
       refine wt 21 ?rca50 [] ?rcb51 ?rcc52;case rcb51=>intro w hSw;(try dsimp only at hSw);obtain⟨s0,s1,s2,s3⟩:=hSw;go_simp;(try with_reducible rfl)
       try simp only[Act.put,zA,zB,zC,zD,zE,zF]
       refine yA (rs:=[22]) (by kernel_rfl) (by simp) ?_;refine AllReadyE.cons rfl (fun KW hK=>?rcst53) AllReadyE.nil;go_simp;refine hK.out _ _ (fun h=>absurd rfl h) (fun hHeld=>?rcrs55);clear hK KW;try simp only[Act.put,zA,zB,zC,zD,zE,zF]
       refine vE (by kernel_rfl) ?_ _;go_wp2_with fail
       go_meet
       case rel=>exact⟨false,rfl,(Below.refl _ _).drew⟩
      have hd:decide (0≤pi)=true:=decide_eq_true h3;have hd2:decide (pi≥0)=true:=decide_eq_true h3;refine zE0 (S:=fun W=>W.cell? ⟨W0.heap.size,0,none⟩=some (.string ccol)∧W.cell? ⟨w.heap.size,2,none⟩=some (.slice (some ⟨cb,co,none⟩) n2 p2)∧W.cell? ⟨w.heap.size,3,none⟩=some (.slice A3 n3 p3)∧W.cell? ⟨cb,co,none⟩=some (.string key)) 22 (by kernel_rfl) ?hSrd (fun hHeld=>?rgrd);case hSrd=>exact HS9.out _ (Below.refl _ _).drew
      refine wt 0 ?rda1 [11,2,1] ?rdb2 ?rdc3;case rdb2=>intro w hSw;(try dsimp only at hSw);obtain⟨s0,s1,s2,s3⟩:=hSw;go_simp;(try with_reducible rfl)
      try simp only[Act.put,zA,zB,zC,zD,zF]
      refine wt 1 ?rda4 [11,2] ?rdb5 ?rdc6;case rdb5=>intro w hSw;(try dsimp only at hSw);obtain⟨s0,s1,s2,s3⟩:=hSw;go_simp;(try with_reducible rfl)
      try simp only[Act.put,zA,zB,zC,zD,zE,zF]
      refine wt 2 ?rda7 [11] ?rdb8 ?rdc9;case rdb8=>intro w hSw;(try dsimp only at hSw);obtain⟨s0,s1,s2,s3⟩:=hSw;go_simp;(try with_reducible rfl)
      try simp only[Act.put,zA,zB,zC,zD,zE,zF]
      refine wu 3 [11,10,9,4] ?rdc10;try simp only[Act.put,zA,zB,zC,zD,zE,zF]
      refine wu 4 [11,10,9] ?rdc11;try simp only[Act.put,zA,zB,zC,zD,zE,zF]
      refine wu 5 [11,10,9,8,7,6] ?rdc12;try simp only[Act.put,zA,zB,zC,zD,zE,zF]
      refine wu 6 [11,10,9,8,7] ?rdc13;try simp only[Act.put,zA,zB,zC,zD,zE,zF]
      refine wu 7 [11,10,9,8] ?rdc14;try simp only[Act.put,zA,zB,zC,zD,zE,zF]
      refine wu 8 [11,10,9] ?rdc15;try simp only[Act.put,zA,zB,zC,zD,zE,zF]
      refine wu 9 [11,10] ?rdc16;try simp only[Act.put,zA,zB,zC,zD,zE,zF]
      refine wt 10 ?rda17 [11] ?rdb18 ?rdc19;case rdb18=>intro w hSw;(try dsimp only at hSw);obtain⟨s0,s1,s2,s3⟩:=hSw;go_simp;(try with_reducible rfl)
      try simp only[Act.put,zA,zB,zC,zD,zE,zF]
      refine wt 11 ?rda20 [] ?rdb21 ?rdc22;case rdb21=>intro w hSw;(try dsimp only at hSw);obtain⟨s0,s1,s2,s3⟩:=hSw;go_simp;(try with_reducible rfl)
      try simp only[Act.put,zA,zB,zC,zD,zE,zF]
      refine wt 12 ?rda23 [21,14,13] ?rdb24 ?rdc25;case rdb24=>intro w hSw;(try dsimp only at hSw);obtain⟨s0,s1,s2,s3⟩:=hSw;go_simp;(try with_reducible rfl)
      try simp only[Act.put,zA,zB,zC,zD,zE,zF]
      refine wt 13 ?rda26 [21,14] ?rdb27 ?rdc28;case rdb27=>intro w hSw;(try dsimp only at hSw);obtain⟨s0,s1,s2,s3⟩:=hSw;go_simp;(try with_reducible rfl)
      try simp only[Act.put,zA,zB,zC,zD,zE,zF]
      refine wt 14 ?rda29 [21] ?rdb30 ?rdc31;case rdb30=>intro w hSw;(try dsimp only at hSw);obtain⟨s0,s1,s2,s3⟩:=hSw;go_simp;(try with_reducible rfl)
      try simp only[Act.put,zA,zB,zC,zD,zE,zF]
      refine wt 15 ?rda32 [21,20,19,16] ?rdb33 ?rdc34;case rdb33=>intro w hSw;(try dsimp only at hSw);obtain⟨s0,s1,s2,s3⟩:=hSw;go_simp;(try with_reducible rfl)
      try simp only[Act.put,zA,zB,zC,zD,zE,zF]
      refine wt 16 ?rda35 [21,20,19] ?rdb36 ?rdc37;case rdb36=>intro w hSw;(try dsimp only at hSw);obtain⟨s0,s1,s2,s3⟩:=hSw;go_simp;(try with_reducible rfl)
      try simp only[Act.put,zA,zB,zC,zD,zE,zF]
      refine wt 17 ?rda38 [21,20,19,18] ?rdb39 ?rdc40;case rdb39=>intro w hSw;(try dsimp only at hSw);obtain⟨s0,s1,s2,s3⟩:=hSw;go_simp;(try with_reducible rfl)
      try simp only[Act.put,zA,zB,zC,zD,zE,zF]
      refine wt 18 ?rda41 [21,20,19] ?rdb42 ?rdc43;case rdb42=>intro w hSw;(try dsimp only at hSw);obtain⟨s0,s1,s2,s3⟩:=hSw;go_simp;(try with_reducible rfl)
      try simp only[Act.put,zA,zB,zC,zD,zE,zF]
      refine yA (rs:=[19]) (by kernel_rfl) (by simp) ?_;refine AllReadyE.cons rfl (fun KW hK=>?rdst44) AllReadyE.nil;go_simp;refine(HKI1.out _ (by exact(Below.refl _ _).drew)).mono ?_;rintro e wb ⟨rfl,rfl⟩;try go_wp2_with fail
      refine hK.out _ _ (fun _=>?rdke45) (fun hHeld'=>?rdrs46);case rdke45=>exact HS9.out _ (Below.refl _ _).drew
      have hHeld:=hHeld' (by decide);clear hHeld';clear hK KW;try simp only[Act.put,zA,zB,zC,zD,zE,zF]
      refine wt 20 ?rda47 [21] ?rdb48 ?rdc49;case rdb48=>intro w hSw;(try dsimp only at hSw);obtain⟨s0,s1,s2,s3⟩:=hSw;go_simp;(try with_reducible rfl)
      try simp only[Act.put,zA,zB,zC,zD,zE,zF]
      refine wt 21 ?rda50 [] ?rdb51 ?rdc52;case rdb51=>intro w hSw;(try dsimp only at hSw);obtain⟨s0,s1,s2,s3⟩:=hSw;go_simp;(try with_reducible rfl)
      try simp only[Act.put,zA,zB,zC,zD,zE,zF]
      refine yA (rs:=[22]) (by kernel_rfl) (by simp) ?_;refine AllReadyE.cons rfl (fun KW hK=>?rdst53) AllReadyE.nil;go_simp;refine hK.out _ _ (fun h=>absurd rfl h) (fun hHeld=>?rdrs55);clear hK KW;try simp only[Act.put,zA,zB,zC,zD,zE,zF]
      refine vE (by kernel_rfl) ?_ _;go_wp2_with fail
      go_meet
      case rel=>exact⟨true,rfl,(Below.refl _ _).drew⟩
   case rest=>as_aux_lemma =>
   obtain⟨hit,rfl,HBX⟩:=hcut;have hb01:=HB0.out.later (HBN1.out.later HBX.out);cases hit
   · go_wp2_with fail;go_roundw;case rel=>exact⟨k+1,by omega,by go_num,hb01⟩
     case measure=>simp[intOf];omega
   · have HPX:=zh (HP0.out.later (HX5.out.later hb01) HP0.out.lt);have HCX:=zh (HCB.out.later HBX.out HCB.out.lt);have HWX:=zh (HBB.out.later (HX5.out.later hb01));obtain⟨WX,rfl⟩:∃WX,WX=wc:=⟨wc,rfl⟩;have q0:=HCX.out.cell 0;have q2:=HCX.out.cell 2;simp at q0 q2;have hne:w.heap.size+1+1≠W0.heap.size:=by omega
     clear hb01 x0 x1 x2 zc0 zc1 zc2;have r0:=HPX.out.cell 0;have r1:=HPX.out.cell 1;have r2:=HPX.out.cell 2;have f0:=HPX.out.frozen 0;have f1:=HPX.out.frozen 1;have f2:=HPX.out.frozen 2;have rz:=HPX.out.lt;simp at r0 r1 r2;go_wp2_with fail;refine bodyPost_ret (v:=.agg #[.int .i64 kd,.string ccol,.string cval]) (by simp[results,Tryz.results130,go_sem,r0,r1,r2]) rfl ?_;exact⟨_,_,_,rfl,HSZ.out,((HWX.out.setCell (show w.heap.size≤w.heap.size+1+1 by omega) _).setCell (show w.heap.size≤w.heap.size+1+1 by omega) _).setCell (show w.heap.size≤w.heap.size+1+1 by omega) _⟩
end Go.Proofs.YtfpcjhajjejpdaaGreatDoor
