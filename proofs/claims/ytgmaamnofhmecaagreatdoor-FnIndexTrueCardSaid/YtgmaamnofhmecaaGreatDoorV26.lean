import Derived.Test.YtgmaamnofhmecaaGreatDoorV21
import Derived.Test.YtgmaamnofhmecaaGreatDoorV22
import Derived.Test.YtgmaamnofhmecaaGreatDoorV25
import Derived.Deep.AppendLies
open Go.Lib renaming hid → zh
namespace Go.Proofs.YtgmaamnofhmecaaGreatDoor
open Go.RowKit
set_option linter.unusedVariables false
theorem zIk {s:ByteArray} (h:s≠⟨#[]⟩):s.toList.isEmpty=false:=by
 have:=zBp h
 cases hs:s.toList with
 | nil=>rw[hs]at this;simp at this
 | cons=>rfl
theorem zLb (cols:List ByteArray) (key val:ByteArray):uE (vD cols key val)=if 1<cols.length then val else ⟨#[]⟩:=by
 unfold uE vD;split
 · rw[List.drop_succ_cons,List.drop_zero,zJK]
 · rfl
set_option maxRecDepth 100000 in
set_option maxHeartbeats 4000000 in
theorem zCk (b0 b1 b2 b3:Value) (b:TableD) (key val:ByteArray) (w:World) (hb:TableR w w.heap.size b0 b1 b2 b3 b) (hpos:0<b.cols.length) (hn5:b.cols.length≤5) (hk:key.size≤1048576) (hv:val.size≤64) :
 Calls Tryz.prog 129 #[.agg #[b0,b1,b2,b3],.string key,.string val] w (zJm (yF b.cols key val) w):=by
 obtain⟨i0,hi,hz0,hz1,hz2⟩:=info_parts zCz;have HT:=zh (fun W (hW:Below w.heap.size w W)=>hb.later hW);have HRS:=zh (uV b.cols key val hk hv);have HKC:=zh (fun W=>zKa val W (by omega));have HKR:=zh (fun W (hW:Below w.heap.size w W) r0 (hr:RowR W W.heap.size r0 (vD b.cols key val))=>zFm b0 b1 b2 b3 r0 b (vD b.cols key val) W (hb.later hW) hr (uV b.cols key val hk hv) hpos);have HPk:=zh (fun W r0 (hr:RowR W W.heap.size r0 (vD b.cols key val))=>zEj r0 (vD b.cols key val) W hr (uV b.cols key val hk hv) (by unfold vD;simp));have HPV:=zh (zLb b.cols key val);have HU:Hid (yF b.cols key val=(if ((decide (b.cols.length=1)&&decide (val≠⟨#[]⟩))||!vC b.cols (vD b.cols key val))=true then none else some (vD b.cols key val))):=rfl;have HCL:=zh (zCh 94 val);have HCN:=zh (zJk 94 val);obtain⟨rfl,rfl,⟨A2,n2,p2,rfl,s2,k2⟩,⟨A3,n3,p3,rfl,s3,k3⟩⟩:=hb;have hl2:=s2.1;rw[hl2]at HPV;have HRV:Hid (vD b.cols key val=key::(if 1<n2 then zZ0 94 val else [])):=by unfold Hid vD;rw[hl2]
 rw[hl2]at hpos hn5;rw[hl2]at HU;clear s2 s3 hl2;generalize yF b.cols key val=U at *;generalize vC b.cols (vD b.cols key val)=rb at *;generalize uE (vD b.cols key val)=PK at *;generalize vD b.cols key val=ROW at *;generalize b.name=nm at *;generalize b.glob=gl at *;generalize zZ0 94 val=CS at *;have HB0:=zh (zCi w (.cells #[.string nm,.string gl,.slice A2 n2 p2,.slice A3 n3 p3] 29) (.cells #[.slice none 0 0] 31) (.cells #[.string key] 9) (.cells #[.slice (some ⟨w.heap.size+1+1,0,none⟩) 1 1] 31));have HX0:=zh (zDf w (.cells #[.string nm,.string gl,.slice A2 n2 p2,.slice A3 n3 p3] 29) (.cells #[.slice none 0 0] 31) (.cells #[.string key] 9) (.cells #[.slice (some ⟨w.heap.size+1+1,0,none⟩) 1 1] 31));have HX1:=zh (zDe w (.cells #[.string nm,.string gl,.slice A2 n2 p2,.slice A3 n3 p3] 29) (.cells #[.slice none 0 0] 31) (.cells #[.string key] 9) (.cells #[.slice (some ⟨w.heap.size+1+1,0,none⟩) 1 1] 31));have HX2:=zh (zDd w (.cells #[.string nm,.string gl,.slice A2 n2 p2,.slice A3 n3 p3] 29) (.cells #[.slice none 0 0] 31) (.cells #[.string key] 9) (.cells #[.slice (some ⟨w.heap.size+1+1,0,none⟩) 1 1] 31));have HX3:=zh (zDc w (.cells #[.string nm,.string gl,.slice A2 n2 p2,.slice A3 n3 p3] 29) (.cells #[.slice none 0 0] 31) (.cells #[.string key] 9) (.cells #[.slice (some ⟨w.heap.size+1+1,0,none⟩) 1 1] 31));go_enter Tryz.func129,Tryz.ntmps129;by_cases h1:n2=1
 · subst h1;have HRV2:Hid (ROW=[key]):=by unfold Hid;rw[HRV.out,if_neg (by omega)]
   clear HRV
   have HSub:Hid (Own.SubO ((((w.alloc (.cells #[.string nm,.string gl,.slice A2 1 p2,.slice A3 n3 p3] 29)).alloc (.cells #[.slice none 0 0] 31)).alloc (.cells #[.string key] 9)).alloc (.cells #[.slice (some ⟨w.heap.size+1+1,0,none⟩) 1 1] 31)) w.heap.size (.slice (some ⟨w.heap.size+1+1,0,none⟩) 1 1) [key]) :=
    Own.sub_of_blk (ss:=[key]) HX2.out (by omega) (by simp[maxLen])
   have HPV1:Hid (PK=⟨#[]⟩):=by unfold Hid;rw[HPV.out,if_neg (by omega)]
   clear HPV;rw[HPV1.out]at HPk;go_wp2_with fail;refine(HKR.out _ HB0.out _ (by obtain⟨A,c,e,hc,hs⟩:=HSub.out.strs;rw[HRV2.out];exact⟨A,_,c,e,hs,hc⟩)).mono ?_;rintro e w1 ⟨rfl,hb1⟩;have HB1:=zh (HB0.out.later hb1);have HY1:=zh (Blk.later HX1.out hb1 (by first | (simp;done) | (simp;omega)));have HY3:=zh (Blk.later HX3.out hb1 (by first | (simp;done) | (simp;omega)));have HS1:Hid (Own.SubO w1 w.heap.size (.slice (some ⟨w.heap.size+1+1,0,none⟩) 1 1) [key]):=Own.own_later HSub.out hb1;have p1:=HY1.out.cell;have f1:=HY1.out.frozen;have z1:=HY1.out.lt;have p3':=HY3.out.cell;have z3:=HY3.out.lt;clear hb1;cases rb
   · have HE2:Hid (U=none):=by unfold Hid;rw[HU.out];simp
     go_wp2_with fail;refine bodyPost_ret (v:=.tuple #[.agg #[.slice none 0 0],.int .i64 14]) (by simp[results,Tryz.results129,go_sem,p1]) rfl ?_;rw[HE2.out];exact⟨_,rfl,Own.sub_nil _ _,HB1.out.setCell (by simp) _⟩
   · go_wp2_with fail;refine(HPk.out _ _ (by obtain⟨A,c,e,hc,hs⟩:=HS1.out.strs;rw[HRV2.out];exact⟨A,_,c,e,hs,hc⟩)).mono ?_;rintro e w2 ⟨rfl,hb2⟩;have HB2:=zh (HB1.out.later hb2);have HS2:=zh (Own.own_later HS1.out hb2);have HZ1:=zh (HY1.out.later hb2 HY1.out.lt);have HZ3:=zh (HY3.out.later hb2 HY3.out.lt);clear p1 f1 z1 p3' z3 hb2;have p1:=HZ1.out.cell;have f1:=HZ1.out.frozen;have z1:=HZ1.out.lt;have p3':=HZ3.out.cell;have z3:=HZ3.out.lt;by_cases hve:val=⟨#[]⟩
     · have HE2:Hid (U=some [key]):=by unfold Hid;rw[HU.out,decide_eq_false (show ¬(val≠⟨#[]⟩) from fun h=>h hve),HRV2.out];simp
       subst hve;go_wp2_with fail;refine bodyPost_ret (v:=.tuple #[.agg #[.slice (some ⟨w.heap.size+1+1,0,none⟩) 1 1],.int .i64 0]) (by simp[results,Tryz.results129,go_sem,p1]) rfl ?_;rw[HE2.out];refine⟨_,rfl,?_,HB2.out.setCell (by simp) _⟩;exact World.ownsRow.kept HS2.out (row:=some (w.heap.size+1)) (Own.grown_set _ _ _ _) (.inr (by simp[Value.ownBlock]))
     · have HE2:Hid (U=none):=by unfold Hid;rw[HU.out,decide_eq_true hve];simp
       have hbe:=vE (fun h=>hve h.symm:¬(⟨#[]⟩:ByteArray)=val);have hbn:=wY (fun h=>hve h.symm:¬(⟨#[]⟩:ByteArray)=val);have hbe2:=vE hve;have hbn2:=wY hve;have hbe3:=zBp hve;have hbe4:=zIk hve;clear hve;go_wp2_with fail;refine bodyPost_ret (v:=.tuple #[.agg #[.slice none 0 0],.int .i64 14]) (by simp[results,Tryz.results129,go_sem,p1]) rfl ?_;rw[HE2.out];exact⟨_,rfl,Own.sub_nil _ _,HB2.out.setCell (by simp) _⟩
 · have hgt:1<n2:=by omega
   have HRV2:Hid (ROW=key::CS):=by unfold Hid;rw[HRV.out,if_pos hgt]
   have HPV1:Hid (PK=val):=by unfold Hid;rw[HPV.out,if_pos hgt]
   rw[HPV1.out]at HPk;clear HPV;have HE:Hid (U=if rb=true then some ROW else none):=by unfold Hid;rw[HU.out,decide_eq_false h1];cases rb <;> simp
   have hg1:(1:Int)<(n2:Int):=by omega
   have hne1:((n2:Int)==1)=false:=by rw[beq_eq_false_iff_ne];omega
   have hne2:(n2==1)=false:=by rw[beq_eq_false_iff_ne];omega
   clear HRV HU h1;have p3':=Blk.cell HX3.out 0;have f3:=Blk.frozen HX3.out 0;have z3:=Blk.lt HX3.out;simp at p3';have hsz0:w.heap.size+1+1+1+1=((((w.alloc (.cells #[.string nm,.string gl,.slice A2 n2 p2,.slice A3 n3 p3] 29)).alloc (.cells #[.slice none 0 0] 31)).alloc (.cells #[.string key] 9)).alloc (.cells #[.slice (some ⟨w.heap.size+1+1,0,none⟩) 1 1] 31)).heap.size:=by simp
   have HRA0:Hid (Own.SubO ((((w.alloc (.cells #[.string nm,.string gl,.slice A2 n2 p2,.slice A3 n3 p3] 29)).alloc (.cells #[.slice none 0 0] 31)).alloc (.cells #[.string key] 9)).alloc (.cells #[.slice (some ⟨w.heap.size+1+1,0,none⟩) 1 1] 31)) w.heap.size (.slice (some ⟨w.heap.size+1+1,0,none⟩) 1 1) [key]) :=
    Own.sub_of_blk (ss:=[key]) HX2.out (by omega) (by simp[maxLen])
   go_wp2_with fail
   go_region_law (first
    | (refine step_append_lies _ (by rfl) _ _ _ (by rfl) w.heap.size 9 i0 _ 1 16 Tryz.underlying27 hi hz0 hz1 hz2 rfl (by omega) (.slice (some ⟨w.heap.size+1+1,0,none⟩) 1 1) 1 [.string key] (by rfl) (by exact HRA.out)
        ⟨gc,0,none⟩ CS.length cc (CS.map Value.string) (by rfl) (by simp) (by exact HCC.out) (by exact zAp CS)
        (by have:=HCN.out;omega) (by unfold maxLen;have:=HCL.out.1;omega) (by have:=HCL.out.1;omega) (by omega) w4.heap.size rfl ?_
       intro gg cap' w5 hown5 hgrow5 hat hlt2;have hbg:=(Blk.later HX3.out HB4.out (by omega)).grown hgrow5 (by simp[Value.ownBlock]);have p5:=hbg.cell;have f5:=hbg.frozen;have z5:=hbg.lt;have HBG:=zh hbg;have HOW:=zh hown5;have HGR:=zh hgrow5
       clear hbg hown5 hgrow5)
    | (go_simp
       go_at_call 203;refine(HKC.out _).mono ?_;rintro e w4 ⟨v',rfl,hsub,hb4⟩;have HB4:=zh (zD0 hb4);obtain⟨AC,cc,rfl,hcc,hmc,hac⟩:=Own.own_slice hsub;obtain⟨gc,rfl,hgc,hgcb⟩:=hac HCN.out;have HCC:=zh (World.ownsRow.cells (g:=gc) hsub rfl);clear hsub hb4;have q2:=(Blk.later HX3.out HB4.out (by omega)).cell 0;simp at q2;have z6:=(Blk.later HX3.out HB4.out (by omega)).lt;have hsz6:=HB4.out.size
       have HRA:=zh (Own.own_later HRA0.out HB4.out)))
   all_goals
    have hgn:gg≠w.heap.size+1+1+1:=by
     rcases hat with h | h
     · simp[Value.ownBlock]at h;omega
     · omega
    have hgn1:gg≠w.heap.size+1:=by
     rcases hat with h | h
     · simp[Value.ownBlock]at h;omega
     · omega
    have HS5:Hid (Own.SubO (w5.setCell ⟨w.heap.size+1+1+1,0,none⟩ (.slice (some ⟨gg,0,none⟩) (1+CS.length) cap')) w.heap.size (.slice (some ⟨gg,0,none⟩) (1+CS.length) cap') (key::CS)):=by have h:=World.ownsRow.kept HOW.out (row:=some (w.heap.size+1+1+1)) (Own.grown_set w5 (w.heap.size+1+1+1) 0 (.slice (some ⟨gg,0,none⟩) (1+CS.length) cap')) (.inr (by simpa [Value.ownBlock] using hgn));unfold Hid Own.SubO;rw[List.length_cons,Nat.add_comm CS.length 1];exact h
    have HB5:=zh (((HB0.out.later HB4.out).grown HGR.out (by omega) (fun g hg=>by simp[Value.ownBlock]at hg;omega)).setCell (p:=⟨w.heap.size+1+1+1,0,none⟩) (by simp;omega) (.slice (some ⟨gg,0,none⟩) (1+CS.length) cap'));have HZ0:=zh (((Blk.later HX0.out HB4.out (by omega)).grown HGR.out (by simp[Value.ownBlock];omega)).far (p:=⟨w.heap.size+1+1+1,0,none⟩) (by simp;omega) (.slice (some ⟨gg,0,none⟩) (1+CS.length) cap'));have HZ1:=zh (((Blk.later HX1.out HB4.out (by omega)).grown HGR.out (by simp[Value.ownBlock])).far (p:=⟨w.heap.size+1+1+1,0,none⟩) (by simp) (.slice (some ⟨gg,0,none⟩) (1+CS.length) cap'));have HZ3:=zh (HBG.out.set_ 0 (.slice (some ⟨gg,0,none⟩) (1+CS.length) cap'));have y0:=HZ0.out.cell 0;have y1:=HZ0.out.cell 1;have y2:=HZ0.out.cell 2;have y3:=HZ0.out.cell 3;have y4:=HZ3.out.cell 0;simp at y0 y1 y2 y3 y4;obtain⟨W5,hW5⟩:∃W5,W5=w5.setCell ⟨w.heap.size+1+1+1,0,none⟩ (.slice (some ⟨gg,0,none⟩) (1+CS.length) cap'):=⟨_,rfl⟩;rw[←hW5]at HS5 HB5 HZ0 HZ1 HZ3 y0 y1 y2 y3 y4 ⊢;clear hW5 p3' f3 z3 p5 f5 z5 q2 z6 HBG HOW HGR;go_wp2_with fail;refine(HKR.out _ HB5.out _ (by obtain⟨A,c,e,hc,hs⟩:=HS5.out.strs;rw[HRV2.out];exact⟨A,_,c,e,hs,hc⟩)).mono ?_;rintro e w6 ⟨rfl,hb6⟩;have HB6:=zh (HB5.out.later hb6);have HY1:=zh (HZ1.out.later hb6 HZ1.out.lt);have HY3:=zh (HZ3.out.later hb6 HZ3.out.lt);have HS6:Hid (Own.SubO w6 w.heap.size (.slice (some ⟨gg,0,none⟩) (1+CS.length) cap') (key::CS)):=Own.own_later HS5.out hb6;have p1:=HY1.out.cell;have f1:=HY1.out.frozen;have z1:=HY1.out.lt;have p3':=HY3.out.cell 0;have z3:=HY3.out.lt;simp at p3';clear hb6 y0 y1 y2 y3 y4;cases rb
    · have HE2:Hid (U=none):=by unfold Hid;rw[HE.out];rfl
      go_wp2_with fail;refine bodyPost_ret (v:=.tuple #[.agg #[.slice none 0 0],.int .i64 14]) (by simp[results,Tryz.results129,go_sem,p1]) rfl ?_;rw[HE2.out];exact⟨_,rfl,Own.sub_nil _ _,HB6.out.setCell (by simp) _⟩
    · go_wp2_with fail;refine(HPk.out _ _ (by obtain⟨A,c,e,hc,hs⟩:=HS6.out.strs;rw[HRV2.out];exact⟨A,_,c,e,hs,hc⟩)).mono ?_;rintro e w7 ⟨rfl,hb7⟩;have HB7:=zh (HB6.out.later hb7);have HS7:=zh (Own.own_later HS6.out hb7);have HV1:=zh (HY1.out.later hb7 HY1.out.lt);have HV3:=zh (HY3.out.later hb7 HY3.out.lt);clear p1 f1 z1 p3' z3 hb7;have p1:=HV1.out.cell;have f1:=HV1.out.frozen;have z1:=HV1.out.lt;have p3':=HV3.out.cell 0;have z3:=HV3.out.lt;simp at p3';have HE2:Hid (U=some (key::CS)):=by unfold Hid;rw[HE.out,HRV2.out];rfl
      go_wp2_with fail;refine bodyPost_ret (v:=.tuple #[.agg #[(.slice (some ⟨gg,0,none⟩) (1+CS.length) cap')],.int .i64 0]) (by simp[results,Tryz.results129,go_sem,p1]) rfl ?_;rw[HE2.out];refine⟨_,rfl,?_,HB7.out.setCell (by simp) _⟩;exact World.ownsRow.kept HS7.out (row:=some (w.heap.size+1)) (Own.grown_set _ _ _ _) (.inr (by simpa [Value.ownBlock] using hgn1))
end Go.Proofs.YtgmaamnofhmecaaGreatDoor
namespace Go.Proofs.YtgmaamnofhmecaaGreatDoor
open Go.RowKit
set_option linter.unusedVariables false
def wD (fs:List NodeD) (b:TableD):Int × List (List ByteArray):=if (xA fs&&zF0 b)=true then uB b.cols (yA b.glob fs) else (1,[])
theorem zHt {s:ByteArray} (h:yJ s=true):(94:UInt8) ∉ s.data.toList:=by
 unfold yJ at h;rw[Bool.and_eq_true,List.all_eq_true]at h;intro hm;have:=h.1 _ hm;unfold yX at this;simp only[Bool.and_eq_true,decide_eq_true_eq]at this;exact this.2.2 rfl
theorem zFx (c:UInt8):∀(l:List (List UInt8)),l≠[]→(∀x∈l,c ∉ x)→uS c (Lib.join l [c])=l
 | [],h,_=>absurd rfl h
 | [x],_,hf=>by rw[xZ,zDl c x (hf x (by simp))]
 | x::y::r,_,hf=>by rw[yO,List.append_assoc];rw[show[c]++Lib.join (y::r) [c]=c::Lib.join (y::r) [c] from rfl];rw[zDk c x _ (hf x (by simp)),zFx c (y::r) (by simp) (fun z hz=>hf z (List.mem_cons_of_mem _ hz))]
theorem zJD (s:ByteArray):(⟨s.data.toList.toArray⟩:ByteArray)=s:=by cases s;simp
theorem zGu {cols r:List ByteArray} (h:vC cols r=true) (hc:0<cols.length):yF cols (r.getD 0 ByteArray.empty) (uE r)=some r:=by
 have h0:=h;unfold vC at h;simp only[Bool.and_eq_true,decide_eq_true_eq,List.all_eq_true]at h;obtain⟨hl,hk,hcell⟩:=h
 have hkv:vD cols (r.getD 0 ByteArray.empty) (uE r)=r:=by
  unfold vD
  match r,hl with
  | [],hl=>simp at hl;omega
  | x::t,hl =>
    simp only[List.getD_cons_zero]
    congr 1
    by_cases h1:1<cols.length
    · rw[if_pos h1];unfold zZ0 uE;simp only[List.drop_succ_cons,List.drop_zero]
      rw[zFx 94 (t.map (·.data.toList)) (by
       intro e;have:=congrArg List.length e;simp at this hl;subst this;simp at hl
       omega) (fun y hy=>by
       obtain⟨s,hs,rfl⟩:=List.mem_map.1 hy
       exact zHt (hcell s (List.mem_cons_of_mem _ hs)))]
      rw[List.map_map]
      conv=>rhs;rw[←List.map_id t]
      apply List.map_congr_left;intro s _;exact zJD s
    · rw[if_neg h1];have:t.length=0:=by simp at hl;omega
      exact(List.eq_nil_of_length_eq_zero this).symm
 unfold yF;rw[hkv,h0,if_neg];simp only[Bool.not_true,Bool.or_false,Bool.and_eq_true,decide_eq_true_eq,not_and];intro h1 h2;apply h2;unfold uE
 match r,hl with
 | [],hl=>simp at hl;omega
 | [x],_=>rfl
 | x::y::t,hl=>simp at hl;omega
theorem zHZ {cols r:List ByteArray} (h:vC cols r=true) (hc:cols.length≤5):(uE r).size≤64:=by
 unfold vC at h;simp only[Bool.and_eq_true,decide_eq_true_eq,List.all_eq_true]at h;obtain⟨hl,hk,hcell⟩:=h
 have hj:∀(l:List (List UInt8)),(∀x∈l,x.length≤11)→(Lib.join l [94]).length≤12*l.length:=by
  intro l
  induction l with
  | nil=>intro _;simp[Lib.join,List.intercalate]
  | cons x t ih =>
    intro hx
    match t,ih with
    | [],_=>rw[xZ];have:=hx x (by simp);simp;omega
    | y::t,ih=>rw[yO];have h1:=hx x (by simp);have h2:=ih (fun z hz=>hx z (List.mem_cons_of_mem _ hz));simp only[List.length_append,List.length_cons,List.length_nil]at h2 ⊢;omega
 have h1:=hj ((r.drop 1).map (·.data.toList)) (fun x hx=>by
  obtain⟨s,hs,rfl⟩:=List.mem_map.1 hx;have:=hcell s (List.mem_of_mem_drop hs);unfold yJ at this;rw[Bool.and_eq_true]at this;have h3:=of_decide_eq_true this.2
  simpa using h3)
 rw[List.length_map,List.length_drop]at h1;unfold uE;show(Lib.join ((r.drop 1).map (·.data.toList)) [94]).toArray.size≤64;rw[List.size_toArray];omega
theorem vA {b:TableD} (h:zF0 b=true):xC b.glob=true∧1≤b.cols.length∧b.cols.length≤5∧b.idx.length<b.cols.length∧∀c∈b.idx,0<wA b.cols c:=by
 unfold zF0 at h;simp only[Bool.and_eq_true,decide_eq_true_eq]at h;obtain⟨_,h1,h2,h3,h4,_,h5⟩:=h;refine⟨h1,h2,h3,h4,?_⟩
 have:∀(l:List ByteArray) (k:Int),0≤k→zAl b.cols l k=true→∀c∈l,0<wA b.cols c:=by
  intro l
  induction l with
  | nil=>intro _ _ _ c hc;simp at hc
  | cons x t ih =>
    intro k hk hx c hc;unfold zAl at hx;rw[Bool.and_eq_true,decide_eq_true_eq]at hx;rcases List.mem_cons.1 hc with rfl | h6
    · omega
    · exact ih _ (by omega) hx.2 c h6
 exact this b.idx 0 (by omega) h5
theorem zHs {s:ByteArray} (h:yJ s=true) (hne:s≠⟨#[]⟩):xS s=true:=by
 unfold yJ at h;rw[Bool.and_eq_true]at h;have h2:=of_decide_eq_true h.2;unfold xS;rw[Bool.and_eq_true];refine⟨decide_eq_true ?_,decide_eq_true (by omega)⟩;rcases Nat.eq_zero_or_pos s.size with h0 | h0
 · exfalso;apply hne
   cases s with | mk d =>
   congr
   exact Array.eq_empty_of_size_eq_zero h0
 · exact h0
theorem zCs {cols r:List ByteArray} (h:vC cols r=true) (k:Nat):yJ (r.getD k ByteArray.empty)=true:=by
 unfold vC at h;simp only[Bool.and_eq_true,decide_eq_true_eq,List.all_eq_true]at h;by_cases hk:k<r.length
 · exact h.2.2 _ (vK r k hk)
 · rw[List.getD_eq_getElem?_getD,List.getElem?_eq_none (by omega)];decide
theorem zIU {cols r:List ByteArray} (h:vC cols r=true):xS (r.getD 0 ByteArray.empty)=true:=by
 have h2:=h;unfold vC at h2;simp only[Bool.and_eq_true,decide_eq_true_eq]at h2;exact zHs (zCs h 0) h2.2.1
theorem zKD {s:ByteArray} (h:xC s=true):xS s=true:=by
 unfold xC at h;rw[Bool.and_eq_true,decide_eq_true_eq]at h;unfold xS;rw[Bool.and_eq_true];refine⟨decide_eq_true ?_,decide_eq_true (by omega)⟩;rcases Nat.eq_zero_or_pos s.size with h0 | h0
 · exfalso;have:s.data.toList=[]:=List.eq_nil_of_length_eq_zero (by simpa using h0);rw[this]at h;cases h.2
 · exact h0
theorem zHo {b:TableD} (h:zF0 b=true) {c:ByteArray} (hc:0≤wA b.cols c):xC c=true:=by
 obtain⟨j,h1,_,h3⟩:=zCY hc;rw[←h3];exact(zKk h j h1).1
theorem zCA {b:TableD} {r:List ByteArray} (kind:Int) (hk:kind=1∨kind=2) (h:zF0 b=true) (hr:vC b.cols r=true):∀c∈yG kind b r,vF c=true∧c.kind=kind∧c.name=b.glob∧c.subs.getD 0 ByteArray.empty=iS∧c.subs.length=4:=by
 obtain⟨t1,t2,t3,t4,t5⟩:=vA h;intro c hc;unfold yG at hc;rw[List.mem_flatMap]at hc;obtain⟨x,hx,hc⟩:=hc;unfold zI0 at hc;split at hc
 · simp at hc
 · next hne =>
   rw[List.mem_singleton]at hc;subst hc;refine⟨?_,rfl,rfl,rfl,rfl⟩;have h2:=t5 x hx;have h3:yK [iS,x,cellAt b.cols r x,r.getD 0 ByteArray.empty]=true:=by unfold yK;simp only[List.all_cons,List.all_nil,Bool.and_true];rw[zKD (zHo h (c:=x) (by omega)),zHs (s:=cellAt b.cols r x) (zCs hr _) hne,zIU hr];rfl
   unfold vF wC;rw[t1,h3];rcases hk with rfl | rfl
   · simp;decide
   · simp
theorem zFR {b:TableD} {r:List ByteArray} (h:zF0 b=true) (hr:vC b.cols r=true):vF (xT b.glob r)=true:=by
 obtain⟨t1,t2,t3,t4,t5⟩:=vA h;have h3:yK [rS,r.getD 0 ByteArray.empty]=true:=by unfold yK;simp only[List.all_cons,List.all_nil,Bool.and_true];rw[zIU hr];rfl
 unfold vF wC xT;simp only[];rw[t1,h3,decide_eq_true (zHZ hr t3)];rfl
theorem zHc {b:TableD} {r:List ByteArray} (kind:Int):(yG kind b r).length≤b.idx.length:=by
 unfold yG;generalize b.idx=l
 induction l with
 | nil=>simp
 | cons x t ih =>
   rw[List.flatMap_cons,List.length_append,List.length_cons];have:(zI0 kind b.glob b.cols r x).length≤1:=by unfold zI0;split <;> simp
   omega
theorem zAX (g:ByteArray) (p:NodeD→Bool) (hp:∀d,p d=true→d.name=g→d.subs.getD 0 ByteArray.empty≠iS):∀(cs:List ChgD) (fs:List NodeD),xA fs=true→(∀c∈cs,vF c=true∧c.name=g∧c.subs.getD 0 ByteArray.empty=iS∧c.subs.length=4) →
 ((zB0 fs cs).1=0∧(zB0 fs cs).2.filter p=fs.filter p)∨(zB0 fs cs).1=4
 | [],fs,_,_=>.inl ⟨rfl,rfl⟩
 | c::r,fs,ht,hc=>by
   obtain⟨h1,h2,h3,h4⟩:=hc c (by simp);unfold zB0;have e:vI fs c=doB fs c:=by unfold vI;rw[ht,h1];rfl
   have htr:=fun h0=>zAW (fs:=fs) (c:=c) h0;rw[e]at htr;rw[e];by_cases hk:c.kind=1
   · have e2:doB fs c=yR fs c.name c.subs c.val:=by unfold doB;rw[if_pos hk]
     rw[e2]at htr ⊢;rcases zFo fs c.name c.subs c.val with h0 | h0
     · rw[if_pos h0]
       have hflt:(yR fs c.name c.subs c.val).2.filter p=fs.filter p:=by
        unfold yR at h0 ⊢;split at h0
        · cases h0
        · next hn =>
          rw[if_neg hn];refine zHW _ _ _ p fun d hd hs=>?_
          cases hpd:p d with
          | false=>rfl
          | true=>exact absurd (by rw[hs];exact h3) (hp d hpd (hd.trans h2))
       rcases zAX g p hp r _ (htr h0) (fun c' hc'=>hc c' (List.mem_cons_of_mem _ hc')) with ⟨h5,h6⟩ | h5
       · exact .inl ⟨h5,h6.trans hflt⟩
       · exact .inr h5
     · rw[h0];exact .inr rfl
   · have e2:doB fs c=(0,yM fs c.name c.subs):=by unfold doB;rw[if_neg hk]
     rw[e2]at htr ⊢;simp only[if_true]
     have hflt:(yM fs c.name c.subs).filter p=fs.filter p:=by
      unfold yM;rw[List.filter_filter];apply List.filter_congr;intro d _
      cases hpd:p d with
      | false=>rfl
      | true =>
        have:inN c.name c.subs d=false:=by
         cases hin:inN c.name c.subs d with
         | false=>rfl
         | true =>
           unfold inN at hin;rw[Bool.and_eq_true,decide_eq_true_eq]at hin;refine absurd ?_ (hp d hpd (hin.1.trans h2));have h5:=hin.2
           match hs:c.subs,h4 with
           | x::t,_ =>
             rw[hs]at h5 h3
             match hd:d.subs with
             | []=>rw[hd]at h5;cases h5
             | y::u=>rw[hd]at h5;unfold zG0 at h5;simp only[List.getD_cons_zero]at h3 ⊢;simp only[Bool.and_eq_true,decide_eq_true_eq]at h5;rw[←h5.1];exact h3
        rw[this];rfl
     rcases zAX g p hp r _ (htr rfl) (fun c' hc'=>hc c' (List.mem_cons_of_mem _ hc')) with ⟨h5,h6⟩ | h5
     · exact .inl ⟨h5,h6.trans hflt⟩
     · exact .inr h5
theorem zFl {g:ByteArray}:∀d,yI g d=true→d.name=g→d.subs.getD 0 ByteArray.empty≠iS:=by
 intro d hd _ e;unfold yI at hd;simp only[Bool.and_eq_true,decide_eq_true_eq]at hd;rw[hd.2.2]at e;exact absurd e (by decide)
end Go.Proofs.YtgmaamnofhmecaaGreatDoor
