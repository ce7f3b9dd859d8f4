import Derived.Test.YtgmaamnofhmecaaGreatDoorV27
import Derived.Test.YtgmaamnofhmecaaGreatDoorV25
open Go.Lib renaming hid → zh
namespace Go.Proofs.YtgmaamnofhmecaaGreatDoor
open Go.RowKit
set_option linter.unusedVariables false
theorem zJP {w0 w4 w5:World} {base:Nat} {v v4 v5 u:Value} {d:ChgD} {fs gs:List ChgD} {vs us:List Value} (h:Own.OwnL uD w0 base 88 v fs vs) (hw:base≤w0.heap.size) (hb:Below w0.heap.size w0 w4) (k:Own.OwnL uD w4 w0.heap.size 88 v4 (d::gs) (u::us))
 (hrow:w5.ownsRow base 88 4 v5 (fs.length+gs.length) (Own.flat uD fs vs++Own.flat uD gs us)) (hg:w4.grownBy w5 v.ownBlock):ChgsO w5 base v5 (fs++gs):=by
 have h4:=h.later hb;have hvl:=h.len;have hul:us.length=gs.length:=by have:=k.len;simpa using this
 have hsub:∀j,j<gs.length→Own.SubO w4 w0.heap.size (us.getD j (.slice none 0 0)) (gs.getD j default).subs:=fun j hj=>by have:=k.subs (j+1) (by simp;omega);rw[List.getD_cons_succ,List.getD_cons_succ]at this;exact this
 refine⟨vs++us,by simp[hvl,hul],?_,fun j hj=>?_,?_⟩
 · rw[List.length_append,Own.flat_append uD _ _ _ _ hvl];exact hrow
 · rw[List.length_append]at hj;by_cases e:j<fs.length
   · rw[List.getD_eq_getElem?_getD,List.getElem?_append_left (by omega),←List.getD_eq_getElem?_getD,List.getD_eq_getElem?_getD (l:=fs++gs),List.getElem?_append_left e,←List.getD_eq_getElem?_getD];exact Own.kept_apart (h4.subs j e) hg (Own.apart_types (h4.subs j e) h4.row (by decide))
   · rw[List.getD_eq_getElem?_getD,List.getElem?_append_right (by omega),←List.getD_eq_getElem?_getD,List.getD_eq_getElem?_getD (l:=fs++gs),List.getElem?_append_right (by omega),←List.getD_eq_getElem?_getD,hvl];exact Own.kept_apart (Own.own_base (hsub _ (by omega)) hw) hg (Own.apart_types (Own.own_base (hsub _ (by omega)) hw) h4.row (by decide))
 · rw[List.pairwise_append];have:=k.aprt;rw[List.pairwise_cons]at this;refine⟨h.aprt,this.2,fun a ha c hc=>?_⟩;obtain⟨j,hj,rfl⟩:=Own.mem_getD hc;exact h.fresh (hsub j (by rw[←hul];exact hj)) (Nat.le_refl _) a ha
theorem zEz (d:ChgD) (gs:List ChgD) (u:Value) (us:List Value):(Own.flat uD (d::gs) (u::us)).drop (1*4)=Own.flat uD gs us:=rfl
theorem zCB (b:TableD) (r:List ByteArray):(yG 1 b r).length≤b.idx.length:=zHc 1
theorem zFC {α:Type} [Inhabited α] (F:α→List ChgD) (l:List α) (k:Nat) (h:k<l.length):(l.take (k+1)).flatMap F=(l.take k).flatMap F++F (l.getD k default):=by
 rw[List.take_succ_eq_append_getElem h,List.flatMap_append,List.getD_eq_getElem?_getD,List.getElem?_eq_getElem h];simp
theorem zAA {α:Type} (F:α→List ChgD) (m:Nat) (hF:∀c,(F c).length≤m):∀(l:List α),(l.flatMap F).length≤m*l.length
 | []=>by simp
 | x::t=>by have h1:=hF x;have h2:=zAA F m hF t;rw[List.flatMap_cons,List.length_append,List.length_cons,Nat.mul_add,Nat.mul_one];omega
theorem zHR {cols r:List ByteArray} (h:vC cols r=true):r.length=cols.length∧(∀s∈r,s.size≤11):=by
 unfold vC at h;simp only[Bool.and_eq_true,decide_eq_true_eq,List.all_eq_true]at h;refine⟨h.1,fun s hs=>?_⟩;have h2:=h.2.2 s hs;unfold yJ at h2;rw[Bool.and_eq_true]at h2;exact of_decide_eq_true h2.2
theorem zAJ {cols:List ByteArray} {ns:List NodeD} (h:(uB cols ns).1=0):(uB cols ns).2.length≤24∧∀r∈(uB cols ns).2,vC cols r=true:=by
 unfold uB at h ⊢;by_cases hl:24<ns.length
 · rw[if_pos hl]at h;exact absurd h (by decide)
 · rw[if_neg hl]at h ⊢
   cases hu:zE0 (zAQ cols) ns with
   | none=>rw[hu]at h;exact absurd h (by decide)
   | some rs =>
     obtain⟨h1,h2⟩:=zBZ hu;refine⟨by show rs.length≤24;omega,fun r hr=>?_⟩;obtain⟨d,hd⟩:=h2 r hr;unfold zAQ yF at hd;split at hd
     · cases hd
     · next hn =>
       cases hd
       cases hr:vC cols (vD cols (d.subs.getD 1 ByteArray.empty) d.val) with
       | true=>rfl
       | false=>rw[hr]at hn;simp at hn
set_option maxRecDepth 100000 in
set_option maxHeartbeats 16000000 in
theorem zBi (A:Option Addr) (n c:Nat) (b0 b1 b2 b3:Value) (fs:List NodeD) (b:TableD) (w:World) (ht:Nodes w w.heap.size A n fs) (hb:TableR w w.heap.size b0 b1 b2 b3 b) (hts:wB fs) (hbs:b.small) :
 Calls Tryz.prog 19 #[.agg #[.slice A n c],.agg #[b0,b1,b2,b3]] w (zBD (vX fs b) w):=by
 obtain⟨i0,hi0,hz0,hz1,hz2⟩:=info_parts uT;have HK1:=zh (fun W (hW:Below w.heap.size w W)=>uG A n c fs W (ht.later hW) hts);have HK2:=zh (fun W (hW:Below w.heap.size w W)=>zAu b0 b1 b2 b3 b W (hb.later hW) hbs);have HK3:Hid (xA fs=true→zF0 b=true→∀W (hW:Below w.heap.size w W),Calls Tryz.prog 63 #[.agg #[.slice A n c],.agg #[b0,b1,b2,b3]] W (zAF (uB b.cols (yA b.glob fs)) W)):=fun h1 h2 W hW=>by obtain⟨f1,f2,f3,f4,f5⟩:=vA h2;exact zDy A n c b0 b1 b2 b3 fs b W (ht.later hW) (hb.later hW) hts h1 (by omega) f3
 have HK5:Hid (zF0 b=true→∀q0 q,vC b.cols q=true→∀W (hW:Below w.heap.size w W),RowR W W.heap.size q0 q→Calls Tryz.prog 70 #[.agg #[b0,b1,b2,b3],.agg #[q0]] W (xN (xT b.glob q::yG 1 b q) W)):=fun h1 q0 q h2 W hW hq=>by obtain⟨f1,f2,f3,f4,f5⟩:=vA h1;obtain⟨g1,g2⟩:=zHR h2;exact zBV b0 b1 b2 b3 q0 b q W (hb.later hW) hq ⟨by omega,fun s hs=>by have:=g2 s hs;omega⟩ (by omega) (by omega) (by omega) (fun x hx=>⟨by have:=f5 x hx;omega,by have:=(xJ b.cols x).2;have:=f5 x hx;omega⟩)
 have HTL:Hid (zF0 b=true→∀q,(yG 1 b q).length≤5):=fun h1 q=>by obtain⟨f1,f2,f3,f4,f5⟩:=vA h1;have:=zCB b q;omega
 have HFA:=zh (zAJ (cols:=b.cols) (ns:=yA b.glob fs))
 have HR:Hid (vX fs b=if (xA fs&&zF0 b)=true then (if (uB b.cols (yA b.glob fs)).1=0 then (0,zAx b.glob::(uB b.cols (yA b.glob fs)).2.flatMap (yG 1 b)) else ((uB b.cols (yA b.glob fs)).1,[])) else (1,[])):=by
  unfold Hid vX wD zKY;by_cases h:(xA fs&&zF0 b)=true
  · rw[if_pos h,if_pos h]
  · rw[if_neg h,if_neg h];rfl
 have HKI:Hid (zAx b.glob=⟨2,b.glob,[⟨#[105]⟩],⟨#[]⟩⟩):=rfl;obtain⟨rfl,rfl,⟨A2,n2,p2,rfl,s2,k2⟩,⟨A3,n3,p3,rfl,s3,k3⟩⟩:=hb;clear s2 s3 ht hts hbs;generalize vX fs b=RR at *;generalize uB b.cols (yA b.glob fs)=rt at *;obtain⟨rc,rs⟩:=rt;dsimp only at HFA HR;generalize zAx b.glob=D at *;generalize xT b.glob=SR at *;generalize yG 1 b=IX at *;generalize xA fs=xt at *;generalize zF0 b=xb at *;generalize vC b.cols=RB at *;generalize b.name=nm at *;generalize b.glob=gl at *;obtain⟨WB,hWB⟩:∃WB,WB=(w.alloc (.cells #[.slice A n c] 26)).alloc (.cells #[.string nm,.string gl,.slice A2 n2 p2,.slice A3 n3 p3] 29):=⟨_,rfl⟩;have HX0:Hid (Blk WB w.heap.size 26 #[.slice A n c]):=by subst hWB;exact uC _ _ _
 have HX1:Hid (Blk WB (w.heap.size+1) 29 #[.string nm,.string gl,.slice A2 n2 p2,.slice A3 n3 p3]):=by subst hWB;exact xB _ _ _
 have HBB:Hid (Below w.heap.size w WB):=by subst hWB;exact(Below.new _ _).later (Below.new _ _)
 have HS1:Hid (∀W',Below WB.heap.size WB W'→(W'.cell? ⟨w.heap.size,0,none⟩=some (.slice A n c)∧W'.cell? ⟨w.heap.size+1,0,none⟩=some (.string nm)∧W'.cell? ⟨w.heap.size+1,1,none⟩=some (.string gl)∧W'.cell? ⟨w.heap.size+1,2,none⟩=some (.slice A2 n2 p2)∧W'.cell? ⟨w.heap.size+1,3,none⟩=some (.slice A3 n3 p3))):=fun W' hW=>⟨(HX0.out.later hW HX0.out.lt).at 0 rfl,(HX1.out.later hW HX1.out.lt).at 0 rfl,(HX1.out.later hW HX1.out.lt).at 1 rfl,(HX1.out.later hW HX1.out.lt).at 2 rfl,(HX1.out.later hW HX1.out.lt).at 3 rfl⟩;have hwB:=HBB.out.size;go_enter Tryz.func19,Tryz.ntmps19;go_wp2_with fail;rw[←hWB];clear hWB;refine(HK1.out _ HBB.out).mono ?_;rintro e w1 ⟨rfl,hb1⟩;have HB1:=zh hb1;clear hb1;cases xt
 · have HE:Hid (RR=(1,[])):=by unfold Hid;rw[HR.out];rfl
   go_wp2_with fail;refine bodyPost_ret (v:=.tuple #[.slice (some ⟨_,0,none⟩) 0 0,.int .i64 _]) (by simp[results,Tryz.results19,go_sem];try first | exact rfl | exact⟨rfl,rfl⟩) rfl ?_;exact⟨_,by rw[HE.out],by rw[HE.out];exact vH _ _ (HBB.out.later HB1.out).size,(HBB.out.later HB1.out).later (Below.new _ _)⟩
 obtain⟨x0,x1,x2,x3,x4⟩:=HS1.out _ HB1.out;go_wp2_with fail;refine(HK2.out _ (HBB.out.later HB1.out)).mono ?_;rintro e w2 ⟨rfl,hb2⟩;have HB2:=zh (HB1.out.later hb2);clear hb2 x0 x1 x2 x3 x4;cases xb
 · have HE:Hid (RR=(1,[])):=by unfold Hid;rw[HR.out];rfl
   go_wp2_with fail;refine bodyPost_ret (v:=.tuple #[.slice (some ⟨_,0,none⟩) 0 0,.int .i64 _]) (by simp[results,Tryz.results19,go_sem];try first | exact rfl | exact⟨rfl,rfl⟩) rfl ?_;exact⟨_,by rw[HE.out],by rw[HE.out];exact vH _ _ (HBB.out.later HB2.out).size,(HBB.out.later HB2.out).later (Below.new _ _)⟩
 obtain⟨x0,x1,x2,x3,x4⟩:=HS1.out _ HB2.out;have HKR:=zh (HK3.out (by first | rfl | trivial) (by first | rfl | trivial));have HKX:=zh (HK5.out (by first | rfl | trivial));have HTX:=zh (HTL.out (by first | rfl | trivial));have HRE:Hid (RR=if rc=0 then (0,D::rs.flatMap IX) else (rc,[])):=by unfold Hid;rw[HR.out];rfl
 clear HK1 HK2 HK3 HK5 HTL HR;go_wp2_with fail;refine(HKR.out _ (HBB.out.later HB2.out)).mono ?_;rintro e w3 ⟨v3,rfl,hr3,hb3⟩;have HB3:=zh (HB2.out.later hb3);have HB3w:=zh (HBB.out.later HB3.out);obtain⟨RA,rcap,rfl,hrcap,hrd⟩:=zBl hr3;have HRD:=zh hrd;have hw3:=HB3.out.size;clear hr3 hb3 hrd x0 x1 x2 x3 x4 HKR;obtain⟨x0,x1,x2,x3,x4⟩:=HS1.out _ HB3.out;by_cases h0:rc=0
 case neg =>
  have HE:Hid (RR=(rc,[])):=by unfold Hid;rw[HRE.out,if_neg h0]
  have hc2:(rc==(0:Int))=false:=beq_eq_false_iff_ne.2 h0;go_wp2_with fail;refine bodyPost_ret (v:=.tuple #[.slice (some ⟨_,0,none⟩) 0 0,.int .i64 rc]) (by simp[results,Tryz.results19,go_sem];try first | exact rfl | exact⟨rfl,rfl⟩) rfl ?_;exact⟨_,by rw[HE.out],by rw[HE.out];exact vH _ _ (HBB.out.later HB3.out).size,(HBB.out.later HB3.out).later (Below.new _ _)⟩
 obtain⟨hlen,hall⟩:=HFA.out h0;have HALL:=zh hall;have HE:Hid (RR=(0,D::rs.flatMap IX)):=by unfold Hid;rw[HRE.out,if_pos h0]
 subst h0;clear hall HFA HRE;have HO1:Hid (Own.OwnL uD ((w3.alloc (.cells #[.string ⟨#[105]⟩] 9)).alloc (.cells #[.int .i64 2,.string gl,.slice (some ⟨w3.heap.size,0,none⟩) 1 1,.string ⟨#[]⟩] 88)) w3.heap.size 88 (.slice (some ⟨w3.heap.size+1,0,none⟩) 1 1) [D] [.slice (some ⟨w3.heap.size,0,none⟩) 1 1]):=by have h:=zX0 (d:=⟨2,gl,[⟨#[105]⟩],⟨#[]⟩⟩) (zCm (w:=w3) (base:=w3.heap.size) [⟨#[105]⟩] #[.string ⟨#[105]⟩] (Nat.le_refl _) (by simp) rfl) (by simp);unfold Hid;rw[HKI.out];simpa using h
 go_wp2_with fail;go_loopw [8,9] (fun v i wr=>∃(k:Nat),k≤rs.length∧i=.int .i64 k∧Hid (ChgsO wr w3.heap.size v (D::(rs.take k).flatMap IX))∧Below w3.heap.size w3 wr) (fun _ i _=>rs.length-(intOf i).toNat);case atStart=>exact⟨0,Nat.zero_le _,rfl,⟨_,HO1.out⟩,(Below.new _ _).later (Below.new _ _)⟩
 case round =>
  obtain⟨k,hk,rfl,hown,hb⟩:=hrel;have HB:=zh hb;have HBw:=zh (HB3w.out.later hb);have hwr:=hb.size;clear hb HO1 x0 x1 x2 x3 x4;obtain⟨x0,x1,x2,x3,x4⟩:=HS1.out _ (HB3.out.later HB.out);obtain⟨vs,hown⟩:=hown;have HO:=zh hown;obtain⟨AO,capo,eo,hco,_,_⟩:=Own.own_slice hown.row;subst eo;clear hown;have HTK:Hid ((D::(rs.take k).flatMap IX).length≤1000):=by unfold Hid;have h1:=zAA IX 5 HTX.out (rs.take k);rw[List.length_take]at h1;rw[List.length_cons];omega
  by_cases hlt:k<rs.length
  · obtain⟨rb,ro,rfl,hrb,hrc⟩:=HRD.out.2 (by omega);obtain⟨rv,hkc,hrr⟩:=hrc k hlt;have HRR:=zh hrr;obtain⟨QA,qn,qp,rfl,qs,qk⟩:=hrr;have HROW:Hid (∀W,Below w3.heap.size w3 W→RowR W W.heap.size (.slice QA qn qp) (rs.getD k default)):=fun W hW=>HRR.out.later hW;have HRB:=zh (HALL.out _ (xD rs k hlt));have HSTP:=zh (zFC IX rs k hlt);have HXL:=zh (HTX.out (rs.getD k default));have HKc:=zh (HKX.out (.slice QA qn qp) (rs.getD k default) HRB.out);have HSX:Hid (∀W',Below w3.heap.size w3 W'→(W'.cell? ⟨w.heap.size,0,none⟩=some (.slice A n c)∧W'.cell? ⟨w.heap.size+1,0,none⟩=some (.string nm)∧W'.cell? ⟨w.heap.size+1,1,none⟩=some (.string gl)∧W'.cell? ⟨w.heap.size+1,2,none⟩=some (.slice A2 n2 p2)∧W'.cell? ⟨w.heap.size+1,3,none⟩=some (.slice A3 n3 p3))∧W'.cell? ⟨rb,ro+k,none⟩=some (.slice QA qn qp)):=fun W' hW=>⟨HS1.out _ (HB3.out.later hW),(hW.cell (p:=⟨rb,ro+k,none⟩) hrb).trans hkc⟩;have hrbz:rb<wr.heap.size:=by omega
    clear hrc hkc qs HRR HRB x0 x1 x2 x3 x4;obtain⟨⟨x0,x1,x2,x3,x4⟩,x5⟩:=HSX.out _ HB.out;generalize rs.getD k default=row at *;generalize hg:IX row=gs at *;clear hg;generalize SR row=d0 at *;generalize hfs:D::(rs.take k).flatMap IX=fs0 at *;have HFS:=zh hfs;clear hfs;have hN:=HTK.out;generalize hNN:fs0.length=N at *;have HN:=zh hNN;clear hNN;have hgl:=HXL.out;have hkI:(k:Int)<(rs.length:Int):=by omega
    go_wp2_with fail
    go_region_held3 (fun W'=>(W'.cell? ⟨w.heap.size,0,none⟩=some (.slice A n c)∧W'.cell? ⟨w.heap.size+1,0,none⟩=some (.string nm)∧W'.cell? ⟨w.heap.size+1,1,none⟩=some (.string gl)∧W'.cell? ⟨w.heap.size+1,2,none⟩=some (.slice A2 n2 p2)∧W'.cell? ⟨w.heap.size+1,3,none⟩=some (.slice A3 n3 p3))∧W'.cell? ⟨rb,ro+k,none⟩=some (.slice QA qn qp))
     (first | exact HSX.out _ HB5.out | exact HSX.out _ HB4X.out | exact HSX.out _ HB.out.drew)
     (first
       | (refine uM _ (by rfl) _ _ _ (by rfl) w3.heap.size 88 i0 _ 4 64 Tryz.underlying34 hi0 hz0 hz1 hz2 rfl (by omega) (.slice AO N capo) N (Own.flat uD fs0 vs) (by rfl) (by exact HRA.out)
           w4.heap.size _ gs.length (cap4-1) (Own.flat uD gs us) (by rfl) (by exact HRD4.out) (by exact HONE.out)
           (by unfold maxLen;omega) (by omega) (by omega) ?_
          intro v5 w5 hown5 hgrow5 _;have HOW:=zh hown5;have HGR:=zh hgrow5;have HB5:Hid (Below w3.heap.size w3 w5):=HB4X.out.grown hgrow5 (by omega) (fun g hg=>(World.ownsRow.lt HRA.out g hg).1)
          clear hown5 hgrow5)
       | (go_at_call 70
          refine(HKc.out _ (by exact HBw.out.drew) (by exact HROW.out _ (by exact HB.out.drew))).mono ?_;rintro e w4 ⟨v4,rfl,⟨us0,hown4⟩,hb4'⟩;have hb4:=zD0 hb4';obtain⟨A4,cap4,rfl,hcap4,_,_⟩:=Own.own_slice hown4.row;have HB4:=zh hb4;have HB4X:=zh (HB.out.later hb4);have hw4:=hb4.size
          obtain⟨u0,us,rfl⟩:∃u us,us0=u::us:=by
           have:=hown4.len
           cases us0 with
           | nil=>simp at this
           | cons u us=>exact⟨u,us,rfl⟩
          have HO4:Hid (Own.OwnL uD w4 wr.heap.size 88 (.slice A4 (d0::gs).length cap4) (d0::gs) (u0::us)):=hown4;have hgi:(1:Int)≤(gs.length:Int)+1:=by omega
          have hcap5:gs.length+1≤cap4:=hcap4;have HRD4:Hid (Reads w4 w4.heap.size 4 (if cap4=1 then A4 else A4.map (·.add (1*4))) gs.length (Own.flat uD gs us)):=by have hrow:w4.ownsRow wr.drew.heap.size 88 4 (.slice A4 (gs.length+1) cap4) (gs.length+1) (Own.flat uD (d0::gs) (u0::us)):=hown4.row;have h:=(Reads.of_own hrow).cut (k:=1) (cap:=cap4) (by omega) hcap5;rw[zEz]at h;exact h
          have HONE:Hid (∀x∈Own.flat uD gs us,x.oneCell'=true):=fun x hx=>vL hown4 x (List.mem_of_mem_drop (i:=1*4) (by rw[zEz];exact hx));have HRA:Hid (w4.ownsRow w3.heap.size 88 4 (.slice AO N capo) N (Own.flat uD fs0 vs)):=by have h:=(HO.out.later hb4).row;rw[HN.out]at h;exact h
          clear hb4 hb4' hown4))
    all_goals
     have HCE:Hid (ChgsO w5 w3.heap.size v5 (D::(rs.take (k+1)).flatMap IX)):=by unfold Hid;rw[HSTP.out,←List.cons_append,HFS.out];exact zJP HO.out hwr HB4.out HO4.out (by rw[HN.out];exact HOW.out) (by exact HGR.out)
     clear x0 x1 x2 x3 x4 x5;go_wp2_with fail;go_roundw;case rel=>exact⟨k+1,by omega,by go_num,HCE.out,HB5.out⟩
     case measure=>simp[intOf];omega
  · have hkn:k=rs.length:=by omega
    have HCE:Hid (ChgsO wr w.heap.size (.slice AO (D::(rs.take k).flatMap IX).length capo) (D::rs.flatMap IX)):=by unfold Hid;have h:ChgsO wr w.heap.size _ (D::(rs.take k).flatMap IX):=ChgsO.base ⟨vs,HO.out⟩ (by omega);rw[List.take_of_length_le (l:=rs) (by omega)]at h;rw[List.take_of_length_le (l:=rs) (by omega)];exact h
    generalize (D::(rs.take k).flatMap IX).length=NN at HCE ⊢;go_wp2_with fail;refine bodyPost_ret (v:=.tuple #[.slice AO _ capo,.int .i64 0]) (by simp[results,Tryz.results19,go_sem];try first | exact rfl | exact⟨rfl,rfl⟩) rfl ?_;exact⟨_,by rw[HE.out],by rw[HE.out];exact HCE.out,HBw.out⟩
end Go.Proofs.YtgmaamnofhmecaaGreatDoor
