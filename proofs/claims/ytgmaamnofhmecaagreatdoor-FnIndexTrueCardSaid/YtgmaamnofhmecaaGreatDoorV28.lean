import Derived.Test.YtgmaamnofhmecaaGreatDoorV27
import Derived.Test.YtgmaamnofhmecaaGreatDoorV25
open Go.Lib renaming hid → zh
namespace Go.Proofs.YtgmaamnofhmecaaGreatDoor
open Go.RowKit
set_option linter.unusedVariables false
theorem uY (F:ByteArray→List ChgD) (hF:∀c,(F c).length≤2):∀(l:List ByteArray),(l.flatMap F).length≤2*l.length
 | []=>by simp
 | x::t=>by have h1:=hF x;have h2:=uY F hF t;rw[List.flatMap_cons,List.length_append,List.length_cons];omega
theorem zDX (g:ByteArray) (cols old r:List ByteArray) (c:ByteArray):(zCj g cols old r c).length≤2:=by
 unfold zCj;split
 · simp
 · have h1:=zAz 2 g cols old c;have h2:=zAz 1 g cols r c;rw[List.length_append];omega
theorem zAU {cols r:List ByteArray} {c:ByteArray} {j:Nat} (h:wA cols c=(j:Int)):cellAt cols r c=r.getD j ByteArray.empty:=by
 unfold cellAt;rw[h,Int.toNat_natCast]
theorem zCV {cols:List ByteArray} {ns:List NodeD} {key:ByteArray} (h:(uF cols ns key).1=0):vC cols (uF cols ns key).2=true:=by
 unfold uF at h ⊢;split at h
 · cases h
 · next hn =>
   rw[if_neg hn];generalize hu:yF cols key (ns.getD (atI ns key).toNat default).val=u at *
   cases u with
   | none=>exact absurd h (by decide)
   | some r =>
     show vC cols r=true;unfold yF at hu;split at hu
     · cases hu
     · next hq =>
       injection hu with hu;subst hu
       cases hrb:vC cols (vD cols key (ns.getD (atI ns key).toNat default).val) with
       | true=>rfl
       | false=>rw[hrb]at hq;simp at hq
set_option maxRecDepth 100000 in
set_option maxHeartbeats 16000000 in
theorem zCp (A:Option Addr) (n c:Nat) (b0 b1 b2 b3 r0:Value) (fs:List NodeD) (b:TableD) (r:List ByteArray) (w:World) (ht:Nodes w w.heap.size A n fs) (hb:TableR w w.heap.size b0 b1 b2 b3 b) (h:RowR w w.heap.size r0 r) (hts:wB fs) (hbs:b.small) (hsm:wL r) :
 Calls Tryz.prog 13 #[.agg #[.slice A n c],.agg #[b0,b1,b2,b3],.agg #[r0]] w (zBD (zAH fs b r) w):=by
 obtain⟨i0,hi0,hz0,hz1,hz2⟩:=info_parts uT;have HK1:=zh (fun W (hW:Below w.heap.size w W)=>uG A n c fs W (ht.later hW) hts);have HK2:=zh (fun W (hW:Below w.heap.size w W)=>zAu b0 b1 b2 b3 b W (hb.later hW) hbs);have HK3:Hid (zF0 b=true→∀W (hW:Below w.heap.size w W),Calls Tryz.prog 57 #[.agg #[b0,b1,b2,b3],.agg #[r0]] W fun e w'=>e=.returned (.bool (vC b.cols r))∧Below W.heap.size W w'):=fun h1 W hW=>zCe b0 b1 b2 b3 r0 b r W (hb.later hW) (h.later hW) hsm (by have:=(vA h1).2.1;omega)
 have HKEY:Hid ((r.getD 0 ByteArray.empty).size≤1048576):=by
  by_cases hp:0<r.length
  · exact hsm.2 _ (vK r 0 hp)
  · have:r=[]:=List.eq_nil_of_length_eq_zero (by omega);subst this;unfold Hid;decide
 have HK4:Hid (xA fs=true→zF0 b=true→∀W (hW:Below w.heap.size w W),Calls Tryz.prog 58 #[.agg #[.slice A n c],.agg #[b0,b1,b2,b3],.string (r.getD 0 ByteArray.empty)] W (zBN (uF b.cols (yA b.glob fs) (r.getD 0 ByteArray.empty)) W)):=fun h1 h2 W hW=>by obtain⟨f1,f2,f3,f4,f5⟩:=vA h2;exact zFZ A n c b0 b1 b2 b3 fs b _ W (ht.later hW) (hb.later hW) hts h1 (by omega) f3 HKEY.out
 have HPOS:Hid (zF0 b=true→vC b.cols r=true→0<r.length):=fun h1 h2=>by have f2:=(vA h1).2.1;unfold vC at h2;simp only[Bool.and_eq_true,decide_eq_true_eq]at h2;omega
 have HK5:Hid (0<r.length→∀W (hW:Below w.heap.size w W),Calls Tryz.prog 59 #[.agg #[b0,b1,b2,b3],.agg #[r0]] W (zDT (xT b.glob r) W)):=fun hp W hW=>zEp b0 b1 b2 b3 r0 b r W (hb.later hW) (h.later hW) hsm hp
 have HK6:Hid (zF0 b=true→∀q0 q kind,vC b.cols q=true→∀c∈b.idx,∀W (hW:Below w.heap.size w W),RowR W W.heap.size q0 q→Calls Tryz.prog 61 #[.agg #[b0,b1,b2,b3],.agg #[q0],.string c,.int .i64 kind] W (xN (zI0 kind b.glob b.cols q c) W)):=fun h1 q0 q kind h2 c hc W hW hq=>by
  obtain⟨f1,f2,f3,f4,f5⟩:=vA h1;have hrl:q.length=b.cols.length:=by unfold vC at h2;simp only[Bool.and_eq_true,decide_eq_true_eq]at h2;exact h2.1
  have:=f5 c hc;have:=(xJ b.cols c).2;exact zAM b0 b1 b2 b3 q0 b q c kind W (hb.later hW) hq (by omega) (by omega) (by omega)
 have HRL:Hid (zF0 b=true→∀q,vC b.cols q=true→∀c∈b.idx,∃j:Nat,wA b.cols c=(j:Int)∧j<q.length):=fun h1 q h2 c hc=>by
  obtain⟨f1,f2,f3,f4,f5⟩:=vA h1;have hrl:q.length=b.cols.length:=by unfold vC at h2;simp only[Bool.and_eq_true,decide_eq_true_eq]at h2;exact h2.1
  have:=f5 c hc;have:=(xJ b.cols c).2;exact⟨(wA b.cols c).toNat,by omega,by omega⟩
 have HTF:Hid (zF0 b=true→b.idx.length≤5∧b.cols.length≤5):=fun h1=>by obtain⟨f1,f2,f3,f4,f5⟩:=vA h1;exact⟨by omega,f3⟩
 have HOK:Hid ((uF b.cols (yA b.glob fs) (r.getD 0 ByteArray.empty)).1=0→vC b.cols (uF b.cols (yA b.glob fs) (r.getD 0 ByteArray.empty)).2=true):=fun h=>zCV h;have HRR:Hid (∀W,Below w.heap.size w W→RowR W W.heap.size r0 r):=fun W hW=>h.later hW
 have HR:Hid (zAH fs b r=if (xA fs&&(zF0 b&&vC b.cols r))=true then
  (if (uF b.cols (yA b.glob fs) (r.getD 0 ByteArray.empty)).1=0 then (0,xT b.glob r::zQ0 b (uF b.cols (yA b.glob fs) (r.getD 0 ByteArray.empty)).2 r) else ((uF b.cols (yA b.glob fs) (r.getD 0 ByteArray.empty)).1,[])) else (1,[])):=rfl
 have HUL:=zh (fun old=>zDX b.glob b.cols old r);have HPL:Hid (zF0 b=true→∀A2 n2 p2 c W,Strs W W.heap.size A2 n2 b.cols→Calls Tryz.prog 60 #[.slice A2 n2 p2,.string c] W fun e w'=>e=.returned (.int .i64 (wA b.cols c))∧Below W.heap.size W w'):=fun h1 A2 n2 p2 c W hs=>(wP A2 n2 p2 b.cols c W hs (by rw[←hs.1];have:=(vA h1).2.2.1;omega)).mono fun e w' h=>⟨h.1,h.2 ▸ Below.refl _ _⟩;obtain⟨rfl,rfl,⟨A2,n2,p2,rfl,s2,k2⟩,⟨A3,n3,p3,rfl,s3,k3⟩⟩:=hb;obtain⟨A4,n4,p4,rfl,hrs,k4⟩:=h;have HRS:=zh hrs;have HLL:=zh hrs.1;have HS2:=zh s2;have HS3:=zh s3;have HL3:=zh s3.1;have HUE:Hid (∀old,zQ0 b old r=b.idx.flatMap (zCj b.glob b.cols old r)):=fun old=>rfl;have HUC:Hid (∀old c (j:Nat),wA b.cols c=(j:Int)→zCj b.glob b.cols old r c=if old.getD j ByteArray.empty=r.getD j ByteArray.empty then [] else zI0 2 b.glob b.cols old c++zI0 1 b.glob b.cols r c):=fun old c j hj=>by unfold zCj;rw[zAU hj,zAU hj]
 have HIL:Hid (∀kind q c,(zI0 kind b.glob b.cols q c).length≤1):=fun kind q c=>zAz kind b.glob b.cols q c;clear s2 s3 ht hts hbs hrs hsm;generalize zAH fs b r=RR at *;generalize xT b.glob r=D at *;generalize uF b.cols (yA b.glob fs) (r.getD 0 ByteArray.empty)=rt at *;obtain⟨rc,old⟩:=rt;dsimp only at HOK HR;generalize zQ0 b=US at *;generalize zCj b.glob b.cols=UC at *;generalize xA fs=xt at *;generalize zF0 b=xb at *;generalize hRB:vC b.cols=RB at *;clear hRB;generalize hID:(fun kind=>zI0 kind b.glob b.cols)=IC at *;have e1:∀kind q c,zI0 kind b.glob b.cols q c=IC kind q c:=fun kind q c=>by rw[←hID]
 simp only[e1]at HK6 HUC HIL;clear e1 hID;generalize b.name=nm at *;generalize b.glob=gl at *;generalize b.cols=cols at *;generalize b.idx=ids at *;obtain⟨WB,hWB⟩:∃WB,WB=((w.alloc (.cells #[.slice A n c] 26)).alloc (.cells #[.string nm,.string gl,.slice A2 n2 p2,.slice A3 n3 p3] 29)).alloc (.cells #[.slice A4 n4 p4] 31):=⟨_,rfl⟩;have HX0:Hid (Blk WB w.heap.size 26 #[.slice A n c]):=by subst hWB;exact wN _ _ _ _
 have HX1:Hid (Blk WB (w.heap.size+1) 29 #[.string nm,.string gl,.slice A2 n2 p2,.slice A3 n3 p3]):=by subst hWB;exact wK _ _ _ _
 have HX2:Hid (Blk WB (w.heap.size+1+1) 31 #[.slice A4 n4 p4]):=by subst hWB;exact wJ _ _ _ _
 have HBB:Hid (Below w.heap.size w WB):=by subst hWB;exact zL0 w _ _ _
 have HS1:Hid (∀W',Below WB.heap.size WB W'→(W'.cell? ⟨w.heap.size,0,none⟩=some (.slice A n c)∧W'.cell? ⟨w.heap.size+1,0,none⟩=some (.string nm)∧W'.cell? ⟨w.heap.size+1,1,none⟩=some (.string gl)∧W'.cell? ⟨w.heap.size+1,2,none⟩=some (.slice A2 n2 p2)∧W'.cell? ⟨w.heap.size+1,3,none⟩=some (.slice A3 n3 p3)∧W'.cell? ⟨w.heap.size+1+1,0,none⟩=some (.slice A4 n4 p4))):=fun W' hW=>⟨(HX0.out.later hW HX0.out.lt).at 0 rfl,(HX1.out.later hW HX1.out.lt).at 0 rfl,(HX1.out.later hW HX1.out.lt).at 1 rfl,(HX1.out.later hW HX1.out.lt).at 2 rfl,(HX1.out.later hW HX1.out.lt).at 3 rfl,(HX2.out.later hW HX2.out.lt).at 0 rfl⟩;go_enter Tryz.func13,Tryz.ntmps13;go_wp2_with fail;rw[←hWB];clear hWB;refine(HK1.out _ HBB.out).mono ?_;rintro e w1 ⟨rfl,hb1⟩;have HB1:=zh hb1;clear hb1;cases xt
 · have HE:Hid (RR=(1,[])):=by unfold Hid;rw[HR.out];rfl
   go_wp2_with fail;refine bodyPost_ret (v:=.tuple #[.slice (some ⟨_,0,none⟩) 0 0,.int .i64 _]) (by simp[results,Tryz.results13,go_sem];try first | exact rfl | exact⟨rfl,rfl⟩) rfl ?_;exact⟨_,by rw[HE.out],by rw[HE.out];exact vH _ _ (HBB.out.later HB1.out).size,(HBB.out.later HB1.out).later (Below.new _ _)⟩
 obtain⟨x0,x1,x2,x3,x4,x5⟩:=HS1.out _ HB1.out;go_wp2_with fail;refine(HK2.out _ (HBB.out.later HB1.out)).mono ?_;rintro e w2 ⟨rfl,hb2⟩;have HB2:=zh (HB1.out.later hb2);clear hb2 x0 x1 x2 x3 x4 x5;cases xb
 · have HE:Hid (RR=(1,[])):=by unfold Hid;rw[HR.out];rfl
   go_wp2_with fail;refine bodyPost_ret (v:=.tuple #[.slice (some ⟨_,0,none⟩) 0 0,.int .i64 _]) (by simp[results,Tryz.results13,go_sem];try first | exact rfl | exact⟨rfl,rfl⟩) rfl ?_;exact⟨_,by rw[HE.out],by rw[HE.out];exact vH _ _ (HBB.out.later HB2.out).size,(HBB.out.later HB2.out).later (Below.new _ _)⟩
 obtain⟨x0,x1,x2,x3,x4,x5⟩:=HS1.out _ HB2.out;go_wp2_with fail;refine(HK3.out (by first | rfl | trivial) _ (HBB.out.later HB2.out)).mono ?_;rintro e w3 ⟨rfl,hb3⟩;have HB3:=zh (HB2.out.later hb3);clear hb3 x0 x1 x2 x3 x4 x5;cases hxr:RB r
 · have HE:Hid (RR=(1,[])):=by unfold Hid;rw[HR.out,hxr];rfl
   clear hxr;go_wp2_with fail;refine bodyPost_ret (v:=.tuple #[.slice (some ⟨_,0,none⟩) 0 0,.int .i64 _]) (by simp[results,Tryz.results13,go_sem];try first | exact rfl | exact⟨rfl,rfl⟩) rfl ?_;exact⟨_,by rw[HE.out],by rw[HE.out];exact vH _ _ (HBB.out.later HB3.out).size,(HBB.out.later HB3.out).later (Below.new _ _)⟩
 have HRB:=zh hxr;clear hxr;obtain⟨x0,x1,x2,x3,x4,x5⟩:=HS1.out _ HB3.out;have hpos:=HPOS.out (by first | rfl | trivial) HRB.out;have HKS:=zh (HK5.out hpos);have HKI:=zh (HK6.out (by first | rfl | trivial));have HKR:=zh (HRL.out (by first | rfl | trivial));have HKP:=zh (HPL.out (by first | rfl | trivial) A2 n2 p2);have HTT:=zh (HTF.out (by first | rfl | trivial));have HRE:Hid (RR=if rc=0 then (0,D::US old r) else (rc,[])):=by unfold Hid;rw[HR.out,HRB.out];rfl
 have HKK:=zh (HK4.out (by first | rfl | trivial) (by first | rfl | trivial));clear HK1 HK2 HK3 HK4 HK5 HK6 HRL HPL HTF HR HPOS;rw[HLL.out]at hpos;obtain⟨rb,ro,rfl,hrb,hrc⟩:=HRS.out.2 hpos;have hr0:=((HBB.out.later HB3.out).cell (p:=⟨rb,ro,none⟩) hrb).trans (hrc 0 hpos);clear hrc;generalize r.getD 0 ByteArray.empty=key at *;have HQ0:Hid (Blk (w3.alloc (.cells #[.slice none 0 0] 31)) w3.heap.size 31 #[.slice none 0 0]):=wF rfl;have HBw:=zh (HBB.out.later HB3.out);have HBn:=zh (HBw.out.later (Below.new w3 (.cells #[.slice none 0 0] 31)));have HSW:Hid (∀W',Below w3.heap.size w3 W'→(W'.cell? ⟨w.heap.size,0,none⟩=some (.slice A n c)∧W'.cell? ⟨w.heap.size+1,0,none⟩=some (.string nm)∧W'.cell? ⟨w.heap.size+1,1,none⟩=some (.string gl)∧W'.cell? ⟨w.heap.size+1,2,none⟩=some (.slice A2 n2 p2)∧W'.cell? ⟨w.heap.size+1,3,none⟩=some (.slice A3 n3 p3)∧W'.cell? ⟨w.heap.size+1+1,0,none⟩=some (.slice (some ⟨rb,ro,none⟩) n4 p4))∧W'.cell? ⟨rb,ro,none⟩=some (.string key)):=fun W' hW=>⟨HS1.out _ (HB3.out.later hW),(hW.cell (p:=⟨rb,ro,none⟩) (by have:=HBw.out.size;show rb<_;omega)).trans hr0⟩;clear x0 x1 x2 x3 x4 x5 hr0;obtain⟨⟨x0,x1,x2,x3,x4,x5⟩,hr0⟩:=HSW.out _ (Below.refl _ _);go_wp2_with fail;apply zLQ (fun (W5:World) (qb:Nat) (AC:Option Addr) (cc:Nat)=>Hid (Blk W5 qb 31 #[.slice AC old.length cc])∧Hid (Strs W5 W5.heap.size AC old.length old)∧Hid (Below w3.heap.size w3 W5)∧old.length≤cc)
 case m =>
  intro HALL
  go_region_held3 (fun W'=>(W'.cell? ⟨w.heap.size,0,none⟩=some (.slice A n c)∧W'.cell? ⟨w.heap.size+1,0,none⟩=some (.string nm)∧W'.cell? ⟨w.heap.size+1,1,none⟩=some (.string gl)∧W'.cell? ⟨w.heap.size+1,2,none⟩=some (.slice A2 n2 p2)∧W'.cell? ⟨w.heap.size+1,3,none⟩=some (.slice A3 n3 p3)∧W'.cell? ⟨w.heap.size+1+1,0,none⟩=some (.slice (some ⟨rb,ro,none⟩) n4 p4))∧W'.cell? ⟨rb,ro,none⟩=some (.string key))
   (first | exact HSW.out _ (Below.refl _ _).drew | exact HSW.out _ (Below.new _ _).drew | exact HSW.out _ HBY.out | exact HSW.out _ (HBY.out.later (Below.new _ _)) | exact HSW.out _ (HBY.out.setCell (Nat.le_refl _) _))
   (first
     | (go_at_call 58;refine(HKK.out _ HBw.out.drew).mono ?_;rintro e w4 ⟨v',rfl,hsub,hb4'⟩;obtain⟨AC,cc,rfl,hcc,hmc,hac⟩:=Own.own_slice hsub;have HBX:=zh (zD0 hb4');have HBY:=zh HBX.out;have HSUB:=zh hsub;clear hsub hb4' hmc hac)
     | (go_at_call 58;refine(HKK.out _ HBn.out.drew).mono ?_;rintro e w4 ⟨v',rfl,hsub,hb4'⟩;obtain⟨AC,cc,rfl,hcc,hmc,hac⟩:=Own.own_slice hsub;have HBX:=zh (zD0 hb4');have HBY:=zh ((Below.new w3 (.cells #[.slice none 0 0] 31)).later HBX.out);have HQ:=zh (Blk.later HQ0.out HBX.out (by simp));have q0:=(Blk.cell HQ.out 0);have qf:=Blk.frozen HQ.out 0;have qz:=Blk.lt HQ.out;have HSUB:=zh hsub;simp at q0;clear hsub hb4' hmc hac))
  all_goals
   have hw3:=HBw.out.size;have hwb:=HBB.out.size
   first
     | (obtain⟨W5,hW5⟩:∃W5,W5=w4.setCell ⟨w3.heap.size,0,none⟩ (.slice AC old.length cc):=⟨_,rfl⟩
        have HQ5:Hid (Blk W5 w3.heap.size 31 #[(.slice AC old.length cc)]):=by subst hW5;unfold Hid;have h:=HQ.out.set_ 0 (.slice AC old.length cc);simpa using h
        have HST:Hid (Strs W5 W5.heap.size AC old.length old):=by obtain⟨A',c',e,_,hs⟩:=Own.SubO.strs (Own.sub_far (i:=0) (u:=(.slice AC old.length cc)) HSUB.out (show w3.heap.size<(w3.alloc (.cells #[.slice none 0 0] 31)).heap.size by simp));injection e with e1 e2 e3;subst e1 e3 hW5;exact hs
        have HBZ:Hid (Below w3.heap.size w3 W5):=by subst hW5;exact HBY.out.setCell (p:=⟨w3.heap.size,0,none⟩) (Nat.le_refl _) (.slice AC old.length cc)
        rw[←hW5];clear hW5 q0 qf qz HQ
        generalize w3.heap.size=qb at HQ5 ⊢)
     | (obtain⟨W5,hW5⟩:∃W5,W5=w4.alloc (.cells #[(.slice AC old.length cc)] 31):=⟨_,rfl⟩
        have HQ5:Hid (Blk W5 w4.heap.size 31 #[(.slice AC old.length cc)]):=by subst hW5;exact wF rfl
        have HST:Hid (Strs W5 W5.heap.size AC old.length old):=by obtain⟨A',c',e,_,hs⟩:=Own.SubO.strs (Own.own_later HSUB.out (Below.new w4 (.cells #[.slice AC old.length cc] 31)));injection e with e1 e2 e3;subst e1 e3 hW5;exact hs
        have HBZ:Hid (Below w3.heap.size w3 W5):=by subst hW5;exact HBY.out.later (Below.new _ _)
        rw[←hW5];clear hW5
        generalize w4.heap.size=qb at HQ5 ⊢)
   exact HALL _ _ _ _ ⟨HQ5,HST,HBZ,hcc⟩
 case t =>
  intro W5 qb AC cc HALL;obtain⟨HQ5,HST,HBZ,hcc⟩:=HALL;have hw3:=HBw.out.size;have hwb:=HBB.out.size;clear HQ0 HBn;have HB5:=zh (HB3.out.later HBZ.out);have HB5w:=zh (HBB.out.later HB5.out);clear HBZ HSW hr0 x0 x1 x2 x3 x4 x5;by_cases h0:rc=0
  case neg =>
   have HE:Hid (RR=(rc,[])):=by unfold Hid;rw[HRE.out,if_neg h0]
   have hc2:(rc==(0:Int))=false:=beq_eq_false_iff_ne.2 h0;go_wp2_with fail;refine bodyPost_ret (v:=.tuple #[.slice (some ⟨_,0,none⟩) 0 0,.int .i64 rc]) (by simp[results,Tryz.results13,go_sem];try first | exact rfl | exact⟨rfl,rfl⟩) rfl ?_;exact⟨_,by rw[HE.out],by rw[HE.out];exact vH _ _ HB5w.out.size,HB5w.out.later (Below.new _ _)⟩
  subst h0;have HOLD:=zh (HOK.out rfl);have HE:Hid (RR=(0,D::ids.flatMap (UC old r))):=by unfold Hid;rw[HRE.out,if_pos rfl,HUE.out]
  have HOR:Hid (∀W,Below W5.heap.size W5 W→RowR W W.heap.size (.slice AC old.length cc) old):=fun W hW=>⟨AC,_,cc,rfl,HST.out.later hW,hcc⟩;have HRR5:Hid (∀W,Below W5.heap.size W5 W→RowR W W.heap.size (.slice (some ⟨rb,ro,none⟩) n4 p4) r):=fun W hW=>HRR.out W (HB5w.out.later hW);have HS5:Hid (∀W',Below W5.heap.size W5 W'→(W'.cell? ⟨w.heap.size,0,none⟩=some (.slice A n c)∧W'.cell? ⟨w.heap.size+1,0,none⟩=some (.string nm)∧W'.cell? ⟨w.heap.size+1,1,none⟩=some (.string gl)∧W'.cell? ⟨w.heap.size+1,2,none⟩=some (.slice A2 n2 p2)∧W'.cell? ⟨w.heap.size+1,3,none⟩=some (.slice A3 n3 p3)∧W'.cell? ⟨w.heap.size+1+1,0,none⟩=some (.slice (some ⟨rb,ro,none⟩) n4 p4))∧W'.cell? ⟨qb,0,none⟩=some (.slice AC old.length cc)):=fun W' hW=>⟨HS1.out _ (HB5.out.later hW),(HQ5.out.later hW HQ5.out.lt).at 0 rfl⟩;obtain⟨⟨x0,x1,x2,x3,x4,x5⟩,x6⟩:=HS5.out _ (Below.refl _ _);go_wp2_with fail;refine(HKS.out _ HB5w.out).mono ?_;rintro e w6 ⟨v1,rfl,hsub1,hb6⟩;obtain⟨A1,cap1,rfl,_,_,_⟩:=Own.own_slice hsub1;have HO1:=zh (zX0 hsub1 hb6.size);have HB6:=zh hb6;have hw6:=hb6.size;clear hb6 hsub1 x0 x1 x2 x3 x4 x5 x6 HKS HKK HRE HUE;go_wp2_with fail;go_loopw [10,11] (fun v i wr=>∃(k:Nat),k≤n3∧i=.int .i64 k∧Hid (ChgsO wr W5.heap.size v (D::(ids.take k).flatMap (UC old r)))∧Below W5.heap.size W5 wr) (fun _ i _=>n3-(intOf i).toNat);case atStart=>exact⟨0,Nat.zero_le _,rfl,⟨_,HO1.out⟩,HB6.out.later (Below.new _ _)⟩
  case round =>
   obtain⟨k,hk,rfl,hown,hb⟩:=hrel;have HB:=zh hb;have HBw:=zh (HB5w.out.later hb);have hwr:=hb.size;obtain⟨⟨x0,x1,x2,x3,x4,x5⟩,x6⟩:=HS5.out _ hb;clear hb HO1 HB6;obtain⟨vs,hown⟩:=hown;have HO:=zh hown;obtain⟨AO,capo,eo,hco,_,_⟩:=Own.own_slice hown.row;subst eo;clear hown;by_cases hlt:k<n3
   · obtain⟨ib,io,rfl,hib0,hic0⟩:=HS3.out.2 (by omega);have hic:∀q,q<n3→wr.cell? ⟨ib,io+q,none⟩=some (.string (ids.getD q ByteArray.empty)):=fun q hq=>(HBw.out.cell (p:=⟨ib,io+q,none⟩) hib0).trans (hic0 q hq);have hib:ib<wr.heap.size:=by have:=HBw.out.size;omega
     have hik:=hic k hlt;have HIK:=zh (hic0 k hlt);have hl:k<ids.length:=by rw[HL3.out];exact hlt
     have hmem:=vK ids k hl;have HKo:=zh (HKI.out (.slice AC old.length cc) old 2 HOLD.out _ hmem);have HKr:=zh (HKI.out (.slice (some ⟨rb,ro,none⟩) n4 p4) r 1 HRB.out _ hmem);obtain⟨j,hj,hjo⟩:=HKR.out old HOLD.out _ hmem;obtain⟨j',hj',hjr⟩:=HKR.out r HRB.out _ hmem;have hjj:j'=j:=by rw[hj]at hj';omega
     subst hjj;have HSTP:=zh (vY (UC old r) ids k hl);have HUJ:=zh (HUC.out old _ j' hj);have HUJL:=zh (HUL.out old (ids.getD k ByteArray.empty));have HI2:=zh (HIL.out 2 old (ids.getD k ByteArray.empty));have HI1:=zh (HIL.out 1 r (ids.getD k ByteArray.empty));have HTL:Hid ((D::(ids.take k).flatMap (UC old r)).length≤1000):=by unfold Hid;have h1:=uY (UC old r) (HUL.out old) (ids.take k);rw[List.length_take]at h1;rw[List.length_cons];have:=HTT.out.1;omega
     have HPc:=zh (HKP.out (ids.getD k ByteArray.empty));rw[hj]at HPc;have hkI:(k:Int)<(n3:Int):=by omega
     obtain⟨ob,oo,eo,hob,hoc⟩:=HST.out.2 (by omega);have hoj:=hoc j' hjo;obtain⟨rb',ro',er,hrb',hrc⟩:=HRS.out.2 (by rw[←HLL.out];omega);injection er with er;injection er with er1 er2;subst er1 er2;have hrj:=hrc j' (by rw[←HLL.out];exact hjr);have hjr4:j'<n4:=by rw[←HLL.out];exact hjr
     clear hic hic0 hl hoc hrc hj hj' hmem;subst eo;generalize ids.getD k ByteArray.empty=col at *;generalize hg2:IC 2 old col=g2 at *;generalize hg1:IC 1 r col=g1 at *;generalize hgu:UC old r col=gu at *;clear hg2 hg1 hgu;generalize old.getD j' ByteArray.empty=vo at *;generalize r.getD j' ByteArray.empty=vr at *;generalize hfs:D::(ids.take k).flatMap (UC old r)=fs0 at *;have HFS:=zh hfs;clear hfs;have hN:=HTL.out;generalize hNN:fs0.length=N at *;have HN:=zh hNN;clear hNN;have hwz5:=HB5w.out.size;have HSX:Hid (∀W',Below W5.heap.size W5 W'→(W'.cell? ⟨w.heap.size,0,none⟩=some (.slice A n c)∧W'.cell? ⟨w.heap.size+1,0,none⟩=some (.string nm)∧W'.cell? ⟨w.heap.size+1,1,none⟩=some (.string gl)∧W'.cell? ⟨w.heap.size+1,2,none⟩=some (.slice A2 n2 p2)∧W'.cell? ⟨w.heap.size+1,3,none⟩=some (.slice (some ⟨ib,io,none⟩) n3 p3)∧W'.cell? ⟨w.heap.size+1+1,0,none⟩=some (.slice (some ⟨rb,ro,none⟩) n4 p4))∧W'.cell? ⟨qb,0,none⟩=some (.slice (some ⟨ob,oo,none⟩) old.length cc)∧W'.cell? ⟨ib,io+k,none⟩=some (.string col)∧W'.cell? ⟨ob,oo+j',none⟩=some (.string vo)∧W'.cell? ⟨rb,ro+j',none⟩=some (.string vr)):=fun W' hW=>by obtain⟨y1,y2⟩:=HS5.out _ hW;exact⟨y1,y2,((HB5w.out.later hW).cell (p:=⟨ib,io+k,none⟩) hib0).trans HIK.out,(hW.cell (p:=⟨ob,oo+j',none⟩) hob).trans hoj,((HB5w.out.later hW).cell (p:=⟨rb,ro+j',none⟩) hrb').trans hrj⟩
     clear x0 x1 x2 x3 x4 x5 x6 hik hoj hrj;obtain⟨⟨x0,x1,x2,x3,x4,x5⟩,x6,x7,x8,x9⟩:=HSX.out _ HB.out;have hkn0:(0:Int)≤(k:Int):=by omega
     have hn35:n3≤5:=by rw[←HL3.out];exact HTT.out.1
     go_wp2_with fail
     go_region_held3 (fun W'=>(W'.cell? ⟨w.heap.size,0,none⟩=some (.slice A n c)∧W'.cell? ⟨w.heap.size+1,0,none⟩=some (.string nm)∧W'.cell? ⟨w.heap.size+1,1,none⟩=some (.string gl)∧W'.cell? ⟨w.heap.size+1,2,none⟩=some (.slice A2 n2 p2)∧W'.cell? ⟨w.heap.size+1,3,none⟩=some (.slice (some ⟨ib,io,none⟩) n3 p3)∧W'.cell? ⟨w.heap.size+1+1,0,none⟩=some (.slice (some ⟨rb,ro,none⟩) n4 p4))∧W'.cell? ⟨qb,0,none⟩=some (.slice (some ⟨ob,oo,none⟩) old.length cc)∧W'.cell? ⟨ib,io+k,none⟩=some (.string col)∧W'.cell? ⟨ob,oo+j',none⟩=some (.string vo)∧W'.cell? ⟨rb,ro+j',none⟩=some (.string vr))
      (first | exact HSX.out _ (HB.out.later hb7) | exact HSX.out _ HB.out.drew)
      ((go_at_call 60;refine(HPc.out _ (by exact HS2.out.later HBw.out.drew)).mono ?_;rintro e w7 ⟨rfl,hb7'⟩;have hb7:=zD0 hb7';clear hb7'))
     have HB7:=zh (HB.out.later hb7);have HB7w:=zh (HB5w.out.later HB7.out);have HO7:=zh (HO.out.later hb7);have hw7:=hb7.size;clear x0 x1 x2 x3 x4 x5 x6 x7 x8 x9 hb7 HB HBw HO HPc;obtain⟨⟨x0,x1,x2,x3,x4,x5⟩,x6,x7,x8,x9⟩:=HSX.out _ HB7.out;have hjI:(j':Int)<(old.length:Int):=by omega
     have hjI4:(j':Int)<(n4:Int):=by omega
     by_cases hv:vo=vr
     · subst hv;have HCE:Hid (ChgsO w7 W5.heap.size (.slice AO N capo) (D::(ids.take (k+1)).flatMap (UC old r))):=by unfold Hid;rw[HSTP.out,HUJ.out,if_pos rfl,List.append_nil,HFS.out];exact⟨vs,HO7.out⟩
       go_wp2_with fail
       go_region
       go_wp2_with fail;go_roundw;case rel=>exact⟨k+1,by omega,by go_num,ChgsO.later HCE.out (Below.refl _ _).drew,HB7.out.drew⟩
       case measure=>simp[intOf];omega
     · have hbe:=vE hv;have hbn:=wY hv;have HUG:Hid (gu=g2++g1):=by unfold Hid;rw[HUJ.out,if_neg hv]
       have hI2:=HI2.out;have hI1:=HI1.out;clear hv HUJ;go_wp2_with fail
       go_region
       go_wp2_with fail;obtain⟨WD,hWD⟩:∃WD,WD=w7.drew:=⟨_,rfl⟩;have HBD:Hid (Below W5.heap.size W5 WD):=by subst hWD;exact HB7.out.drew
       have HBDw:Hid (Below w.heap.size w WD):=by subst hWD;exact HB7w.out.drew
       have HOD:Hid (Own.OwnL uD WD W5.heap.size 88 (.slice AO N capo) fs0 vs):=by subst hWD;exact HO7.out.later (Below.refl _ _).drew
       have hwD:=HBD.out.size;try rw[←hWD]
       clear hWD x0 x1 x2 x3 x4 x5 x6 x7 x8 x9 HO7 HB7 HB7w;obtain⟨⟨x0,x1,x2,x3,x4,x5⟩,x6,x7,x8,x9⟩:=HSX.out _ HBD.out
       go_region_held3 (fun W'=>(W'.cell? ⟨w.heap.size,0,none⟩=some (.slice A n c)∧W'.cell? ⟨w.heap.size+1,0,none⟩=some (.string nm)∧W'.cell? ⟨w.heap.size+1,1,none⟩=some (.string gl)∧W'.cell? ⟨w.heap.size+1,2,none⟩=some (.slice A2 n2 p2)∧W'.cell? ⟨w.heap.size+1,3,none⟩=some (.slice (some ⟨ib,io,none⟩) n3 p3)∧W'.cell? ⟨w.heap.size+1+1,0,none⟩=some (.slice (some ⟨rb,ro,none⟩) n4 p4))∧W'.cell? ⟨qb,0,none⟩=some (.slice (some ⟨ob,oo,none⟩) old.length cc)∧W'.cell? ⟨ib,io+k,none⟩=some (.string col)∧W'.cell? ⟨ob,oo+j',none⟩=some (.string vo)∧W'.cell? ⟨rb,ro+j',none⟩=some (.string vr))
        (first | exact HSX.out _ HBa5.out | exact HSX.out _ HBaX.out | exact HSX.out _ HBD.out.drew)
        (first
          | (refine uM _ (by rfl) _ _ _ (by rfl) W5.heap.size 88 i0 _ 4 64 Tryz.underlying34 hi0 hz0 hz1 hz2 rfl (by omega) (.slice AO N capo) N (Own.flat uD fs0 vs) (by rfl) (by exact HRAa.out)
              wa4.heap.size Aa4 g2.length capa4 (Own.flat uD g2 usa) (by rfl) (by exact HRDa.out) (by exact HONEa.out)
              (by unfold maxLen;omega) (by omega) (by omega) ?_
             intro va5 wa5 howna5 hgrowa5 _;have HOWa:=zh howna5;have HGRa:=zh hgrowa5;have HBa5:Hid (Below W5.heap.size W5 wa5):=HBaX.out.grown hgrowa5 (by omega) (fun g hg=>(World.ownsRow.lt HRAa.out g hg).1)
             clear howna5 hgrowa5)
          | (go_at_call 61
             refine(HKo.out _ (by exact HBDw.out.drew) (by exact HOR.out _ (by exact HBD.out.drew))).mono ?_;rintro e wa4 ⟨va4,rfl,⟨usa,howna4⟩,hba4'⟩;have hba4:=zD0 hba4';obtain⟨Aa4,capa4,rfl,hcapa4,_,_⟩:=Own.own_slice howna4.row;have HBa4:=zh hba4;have HBaX:=zh (HBD.out.later hba4);have hwa4:=hba4.size;have HOa4:Hid (Own.OwnL uD wa4 WD.heap.size 88 (.slice Aa4 g2.length capa4) g2 usa):=howna4;have HRDa:=zh (Reads.of_own howna4.row);have HONEa:=zh (vL howna4);have HRAa:Hid (wa4.ownsRow W5.heap.size 88 4 (.slice AO N capo) N (Own.flat uD fs0 vs)):=by have h:=(HOD.out.later hba4).row;rw[HN.out]at h;exact h
             clear hba4 hba4' howna4))
       all_goals
        have HCa:Hid (ChgsO wa5 W5.heap.size va5 (fs0++g2)):=zAC HOD.out hwD HBa4.out HOa4.out (by rw[HN.out];exact HOWa.out) HGRa.out;have HBa5w:=zh (HB5w.out.later HBa5.out);obtain⟨vsa,hca⟩:=HCa.out;obtain⟨AOa,capoa,eoa,hcoa,_,_⟩:=Own.own_slice hca.row;subst eoa;have HOa:=zh hca;have hNa:(fs0++g2).length≤1001:=by rw[List.length_append,HN.out];omega
        have hwa5:=HBa5.out.size;clear hca HCa HBa4 HOa4 HRDa HONEa HRAa HOWa HGRa x0 x1 x2 x3 x4 x5 x6 x7 x8 x9;obtain⟨⟨x0,x1,x2,x3,x4,x5⟩,x6,x7,x8,x9⟩:=HSX.out _ HBa5.out;obtain⟨Na,hNb⟩:∃Na,(fs0++g2).length=Na:=⟨_,rfl⟩;rw[hNb]at hNa ⊢;have HNa:=zh hNb;clear hNb;go_wp2_with fail
        go_region_held3 (fun W'=>(W'.cell? ⟨w.heap.size,0,none⟩=some (.slice A n c)∧W'.cell? ⟨w.heap.size+1,0,none⟩=some (.string nm)∧W'.cell? ⟨w.heap.size+1,1,none⟩=some (.string gl)∧W'.cell? ⟨w.heap.size+1,2,none⟩=some (.slice A2 n2 p2)∧W'.cell? ⟨w.heap.size+1,3,none⟩=some (.slice (some ⟨ib,io,none⟩) n3 p3)∧W'.cell? ⟨w.heap.size+1+1,0,none⟩=some (.slice (some ⟨rb,ro,none⟩) n4 p4))∧W'.cell? ⟨qb,0,none⟩=some (.slice (some ⟨ob,oo,none⟩) old.length cc)∧W'.cell? ⟨ib,io+k,none⟩=some (.string col)∧W'.cell? ⟨ob,oo+j',none⟩=some (.string vo)∧W'.cell? ⟨rb,ro+j',none⟩=some (.string vr))
         (first | exact HSX.out _ HBb5.out | exact HSX.out _ HBbX.out | exact HSX.out _ HBa5.out.drew)
         (first
           | (refine uM _ (by rfl) _ _ _ (by rfl) W5.heap.size 88 i0 _ 4 64 Tryz.underlying34 hi0 hz0 hz1 hz2 rfl (by omega) (.slice AOa Na capoa) Na (Own.flat uD (fs0++g2) vsa) (by rfl) (by exact HRAb.out)
               wb4.heap.size Ab4 g1.length capb4 (Own.flat uD g1 usb) (by rfl) (by exact HRDb.out) (by exact HONEb.out)
               (by unfold maxLen;omega) (by omega) (by omega) ?_
              intro vb5 wb5 hownb5 hgrowb5 _;have HOWb:=zh hownb5;have HGRb:=zh hgrowb5;have HBb5:Hid (Below W5.heap.size W5 wb5):=HBbX.out.grown hgrowb5 (by omega) (fun g hg=>(World.ownsRow.lt HRAb.out g hg).1)
              clear hownb5 hgrowb5)
           | (go_at_call 61
              refine(HKr.out _ (by exact HBa5w.out.drew) (by exact HRR5.out _ (by exact HBa5.out.drew))).mono ?_;rintro e wb4 ⟨vb4,rfl,⟨usb,hownb4⟩,hbb4'⟩;have hbb4:=zD0 hbb4';obtain⟨Ab4,capb4,rfl,hcapb4,_,_⟩:=Own.own_slice hownb4.row;have HBb4:=zh hbb4;have HBbX:=zh (HBa5.out.later hbb4);have hwb4:=hbb4.size;have HOb4:Hid (Own.OwnL uD wb4 wa5.heap.size 88 (.slice Ab4 g1.length capb4) g1 usb):=hownb4;have HRDb:=zh (Reads.of_own hownb4.row);have HONEb:=zh (vL hownb4);have HRAb:Hid (wb4.ownsRow W5.heap.size 88 4 (.slice AOa Na capoa) Na (Own.flat uD (fs0++g2) vsa)):=by have h:=(HOa.out.later hbb4).row;rw[HNa.out]at h;exact h
              clear hbb4 hbb4' hownb4))
        all_goals
         have HCb:Hid (ChgsO wb5 W5.heap.size vb5 (fs0++g2++g1)):=zAC HOa.out hwa5 HBb4.out HOb4.out (by rw[HNa.out];exact HOWb.out) (by rw[HNa.out];exact HGRb.out);have HCE:Hid (ChgsO wb5 W5.heap.size vb5 (D::(ids.take (k+1)).flatMap (UC old r))):=by unfold Hid;rw[HSTP.out,HUG.out,←List.cons_append,HFS.out,←List.append_assoc];exact HCb.out
         clear x0 x1 x2 x3 x4 x5 x6 x7 x8 x9;go_wp2_with fail;go_roundw;case rel=>exact⟨k+1,by omega,by go_num,HCE.out,HBb5.out⟩
         case measure=>simp[intOf];omega
   · have hkn:k=n3:=by omega
     have HCE:Hid (ChgsO wr w.heap.size (.slice AO (D::(ids.take k).flatMap (UC old r)).length capo) (D::ids.flatMap (UC old r))):=by unfold Hid;have h:ChgsO wr w.heap.size _ (D::(ids.take k).flatMap (UC old r)):=ChgsO.base ⟨vs,HO.out⟩ HB5w.out.size;rw[List.take_of_length_le (l:=ids) (by rw[HL3.out];omega)]at h;rw[List.take_of_length_le (l:=ids) (by rw[HL3.out];omega)];exact h
     generalize (D::(ids.take k).flatMap (UC old r)).length=NN at HCE ⊢;go_wp2_with fail;refine bodyPost_ret (v:=.tuple #[.slice AO _ capo,.int .i64 0]) (by simp[results,Tryz.results13,go_sem];try first | exact rfl | exact⟨rfl,rfl⟩) rfl ?_;exact⟨_,by rw[HE.out],by rw[HE.out];exact HCE.out,HBw.out⟩
end Go.Proofs.YtgmaamnofhmecaaGreatDoor
