import Derived.Test.YtfpcjhajjejpdaaGreatDoorZ29
import Derived.Test.YtfpcjhajjejpdaaGreatDoorZ24
import Derived.Test.YtfpcjhajjejpdaaGreatDoorZ33
import Derived.Test.YtfpcjhajjejpdaaGreatDoorZ32
import Derived.Test.YtfpcjhajjejpdaaGreatDoorZ28
set_option maxHeartbeats 40000000
open Go.Lib renaming hid → zh
namespace Go.Proofs.YtfpcjhajjejpdaaGreatDoor
open Go.RowKit
set_option linter.unusedVariables false
def zAq (fs:List NodeD) (b:TableD) (key:ByteArray):Int × List ByteArray:=if (uA fs&&wM b)=true then vX b.cols (xB b.glob fs) key else (1,[])
theorem zHV {cols r:List ByteArray} (h:vQ cols r=true) (hc:cols.length≤5):(wH r).size≤64:=by
 unfold vQ at h;simp only[Bool.and_eq_true,decide_eq_true_eq,List.all_eq_true]at h;obtain⟨hl,hk,hcell⟩:=h
 have hj:∀(l:List (List UInt8)),(∀x∈l,x.length≤11)→(Lib.join l [94]).length≤12*l.length:=by
  intro l
  induction l with
  | nil=>intro _;simp[Lib.join,List.intercalate]
  | cons x t ih =>
    intro hx
    match t,ih with
    | [],_=>rw[zAs];have:=hx x (by simp);simp;omega
    | y::t,ih=>rw[yR];have h1:=hx x (by simp);have h2:=ih (fun z hz=>hx z (List.mem_cons_of_mem _ hz));simp only[List.length_append,List.length_cons,List.length_nil]at h2 ⊢;omega
 have h1:=hj ((r.drop 1).map (·.data.toList)) (fun x hx=>by
  obtain⟨s,hs,rfl⟩:=List.mem_map.1 hx;have:=hcell s (List.mem_of_mem_drop hs);unfold wI at this;rw[Bool.and_eq_true]at this;have h3:=of_decide_eq_true this.2
  simpa using h3)
 rw[List.length_map,List.length_drop]at h1;unfold wH;show(Lib.join ((r.drop 1).map (·.data.toList)) [94]).toArray.size≤64;rw[List.size_toArray];omega
theorem uO {b:TableD} (h:wM b=true):zB0 b.glob=true∧1≤b.cols.length∧b.cols.length≤5∧b.idx.length<b.cols.length∧∀c∈b.idx,0<xA b.cols c:=by
 unfold wM at h;simp only[Bool.and_eq_true,decide_eq_true_eq]at h;obtain⟨_,h1,h2,h3,h4,_,h5⟩:=h;refine⟨h1,h2,h3,h4,?_⟩
 have:∀(l:List ByteArray) (k:Int),0≤k→zAg b.cols l k=true→∀c∈l,0<xA b.cols c:=by
  intro l
  induction l with
  | nil=>intro _ _ _ c hc;simp at hc
  | cons x t ih =>
    intro k hk hx c hc;unfold zAg at hx;rw[Bool.and_eq_true,decide_eq_true_eq]at hx;rcases List.mem_cons.1 hc with rfl | h6
    · omega
    · exact ih _ (by omega) hx.2 c h6
 exact this b.idx 0 (by omega) h5
theorem zHn {s:ByteArray} (h:wI s=true) (hne:s≠⟨#[]⟩):wV s=true:=by
 unfold wI at h;rw[Bool.and_eq_true]at h;have h2:=of_decide_eq_true h.2;unfold wV;rw[Bool.and_eq_true];refine⟨decide_eq_true ?_,decide_eq_true (by omega)⟩;rcases Nat.eq_zero_or_pos s.size with h0 | h0
 · exfalso;apply hne
   cases s with | mk d =>
   congr
   exact Array.eq_empty_of_size_eq_zero h0
 · exact h0
theorem zGo {cols r:List ByteArray} (h:vQ cols r=true) (k:Nat):wI (r.getD k ByteArray.empty)=true:=by
 unfold vQ at h;simp only[Bool.and_eq_true,decide_eq_true_eq,List.all_eq_true]at h;by_cases hk:k<r.length
 · exact h.2.2 _ (xE r k hk)
 · rw[List.getD_eq_getElem?_getD,List.getElem?_eq_none (by omega)];decide
theorem zIP {cols r:List ByteArray} (h:vQ cols r=true):wV (r.getD 0 ByteArray.empty)=true:=by
 have h2:=h;unfold vQ at h2;simp only[Bool.and_eq_true,decide_eq_true_eq]at h2;exact zHn (zGo h 0) h2.2.1
theorem zKA {s:ByteArray} (h:zB0 s=true):wV s=true:=by
 unfold zB0 at h;rw[Bool.and_eq_true,decide_eq_true_eq]at h;unfold wV;rw[Bool.and_eq_true];refine⟨decide_eq_true ?_,decide_eq_true (by omega)⟩;rcases Nat.eq_zero_or_pos s.size with h0 | h0
 · exfalso;have:s.data.toList=[]:=List.eq_nil_of_length_eq_zero (by simpa using h0);rw[this]at h;cases h.2
 · exact h0
theorem zKL {b:TableD} (h:wM b=true) {c:ByteArray} (hc:0≤xA b.cols c):zB0 c=true:=by
 obtain⟨j,h1,_,h3⟩:=zJy hc;rw[←h3];exact(zDG h j h1).1
theorem zLm {b:TableD} {r:List ByteArray} (kind:Int) (hk:kind=1∨kind=2) (h:wM b=true) (hr:vQ b.cols r=true):∀c∈zAP kind b r,xP c=true∧c.kind=kind∧c.name=b.glob∧c.subs.getD 0 ByteArray.empty=iS∧c.subs.length=4:=by
 obtain⟨t1,t2,t3,t4,t5⟩:=uO h;intro c hc;unfold zAP at hc;rw[List.mem_flatMap]at hc;obtain⟨x,hx,hc⟩:=hc;unfold zDt at hc;split at hc
 · simp at hc
 · next hne =>
   rw[List.mem_singleton]at hc;subst hc;refine⟨?_,rfl,rfl,rfl,rfl⟩;have h2:=t5 x hx;have h3:xQ [iS,x,cellAt b.cols r x,r.getD 0 ByteArray.empty]=true:=by unfold xQ;simp only[List.all_cons,List.all_nil,Bool.and_true];rw[zKA (zKL h (c:=x) (by omega)),zHn (s:=cellAt b.cols r x) (zGo hr _) hne,zIP hr];rfl
   unfold xP zH0;rw[t1,h3];rcases hk with rfl | rfl
   · simp;decide
   · simp
theorem zKZ {b:TableD} {r:List ByteArray} (h:wM b=true) (hr:vQ b.cols r=true):xP (zDr b.glob r)=true:=by
 obtain⟨t1,t2,t3,t4,t5⟩:=uO h;have h3:xQ [rS,r.getD 0 ByteArray.empty]=true:=by unfold xQ;simp only[List.all_cons,List.all_nil,Bool.and_true];rw[zIP hr];rfl
 unfold xP zH0 zDr;simp only[];rw[t1,h3,decide_eq_true (zHV hr t3)];rfl
theorem zKF {b:TableD} {r:List ByteArray} (kind:Int):(zAP kind b r).length≤b.idx.length:=by
 unfold zAP;generalize b.idx=l
 induction l with
 | nil=>simp
 | cons x t ih =>
   rw[List.flatMap_cons,List.length_append,List.length_cons];have:(zDt kind b.glob b.cols r x).length≤1:=by unfold zDt;split <;> simp
   omega
end Go.Proofs.YtfpcjhajjejpdaaGreatDoor
namespace Go.Proofs.YtfpcjhajjejpdaaGreatDoor
open Go.RowKit
set_option linter.unusedVariables false
set_option maxRecDepth 100000 in
theorem zBT (A:Option Addr) (n c:Nat) (b0 b1 b2 b3 r0:Value) (fs:List NodeD) (b:TableD) (r:List ByteArray) (w:World) (ht:Nodes w w.heap.size A n fs) (hb:TableR w w.heap.size b0 b1 b2 b3 b) (h:RowR w w.heap.size r0 r) (hts:vF fs) (hbs:b.small) (hsm:yH r) :
 Calls Tryz.prog 25 #[.agg #[.slice A n c],.agg #[b0,b1,b2,b3],.agg #[r0]] w (zKQ (zIm fs b r) w):=by
 have HK1:=zh (fun W (hW:Below w.heap.size w W)=>yL A n c fs W (ht.later hW) hts);have HK2:=zh (fun W (hW:Below w.heap.size w W)=>zCE b0 b1 b2 b3 b W (hb.later hW) hbs);have HK3:Hid (wM b=true→∀W (hW:Below w.heap.size w W),Calls Tryz.prog 78 #[.agg #[b0,b1,b2,b3],.agg #[r0]] W fun e w'=>e=.returned (.bool (vQ b.cols r))∧Below W.heap.size W w'):=fun h1 W hW=>zDV b0 b1 b2 b3 r0 b r W (hb.later hW) (h.later hW) hsm (by have:=(uO h1).2.1;omega);have HK4:=zh (fun W (hW:Below w.heap.size w W)=>zCb A n c b0 b1 b2 b3 fs b W (ht.later hW) (hb.later hW) hts)
 have HK5:Hid (wM b=true→vQ b.cols r=true→∀W (hW:Below w.heap.size w W),Calls Tryz.prog 81 #[.agg #[b0,b1,b2,b3],.agg #[r0]] W (zEG (zDr b.glob r::zAP 1 b r) W)):=fun h1 h2 W hW=>by
  obtain⟨f1,f2,f3,f4,f5⟩:=uO h1;have hrl:r.length=b.cols.length:=by unfold vQ at h2;simp only[Bool.and_eq_true,decide_eq_true_eq]at h2;exact h2.1
  exact zEN b0 b1 b2 b3 r0 b r W (hb.later hW) (h.later hW) hsm (by omega) (by omega) (by omega) (fun x hx=>⟨by have:=f5 x hx;omega,by have:=(xD b.cols x).2;have:=f5 x hx;omega⟩)
 have HL:=zh (zGl (g:=b.glob) hts);have H2:=zh (zBV (g:=b.glob) (fs:=fs));have HPOS:Hid (wM b=true→vQ b.cols r=true→0<r.length):=fun h1 h2=>by have f2:=(uO h1).2.1;unfold vQ at h2;simp only[Bool.and_eq_true,decide_eq_true_eq]at h2;omega
 have HR:Hid (zIm fs b r=if (uA fs&&(wM b&&vQ b.cols r))=true then
  (if 0≤atI (xB b.glob fs) (r.getD 0 ByteArray.empty) then (5,[]) else if 24≤(xB b.glob fs).length then (4,[]) else (0,zDr b.glob r::zAP 1 b r)) else (1,[])):=rfl
 obtain⟨rfl,rfl,⟨A2,n2,p2,rfl,s2,k2⟩,⟨A3,n3,p3,rfl,s3,k3⟩⟩:=hb;obtain⟨A4,n4,p4,rfl,hrs,k4⟩:=h;have HRS:=zh hrs;have HRL:=zh hrs.1;clear s2 s3 ht hts hbs hrs hsm;generalize zIm fs b r=R at *;generalize zDr b.glob r::zAP 1 b r=IL at *;generalize uA fs=xt at *;generalize wM b=xb at *;generalize vQ b.cols r=xr at *;generalize xB b.glob fs=ns at *;generalize b.name=nm at *;generalize b.glob=gl at *;obtain⟨WB,hWB⟩:∃WB,WB=((w.alloc (.cells #[.slice A n c] 26)).alloc (.cells #[.string nm,.string gl,.slice A2 n2 p2,.slice A3 n3 p3] 29)).alloc (.cells #[.slice A4 n4 p4] 40):=⟨_,rfl⟩;have HX0:Hid (Blk WB w.heap.size 26 #[.slice A n c]):=by subst hWB;exact zK0 _ _ _ _
 have HX1:Hid (Blk WB (w.heap.size+1) 29 #[.string nm,.string gl,.slice A2 n2 p2,.slice A3 n3 p3]):=by subst hWB;exact uI _ _ _ _
 have HX2:Hid (Blk WB (w.heap.size+1+1) 40 #[.slice A4 n4 p4]):=by subst hWB;exact zI0 _ _ _ _
 have HBB:Hid (Below w.heap.size w WB):=by subst hWB;exact wJ w _ _ _
 have HS1:Hid (∀W',Below WB.heap.size WB W'→(W'.cell? ⟨w.heap.size,0,none⟩=some (.slice A n c)∧W'.cell? ⟨w.heap.size+1,0,none⟩=some (.string nm)∧W'.cell? ⟨w.heap.size+1,1,none⟩=some (.string gl)∧W'.cell? ⟨w.heap.size+1,2,none⟩=some (.slice A2 n2 p2)∧W'.cell? ⟨w.heap.size+1,3,none⟩=some (.slice A3 n3 p3)∧W'.cell? ⟨w.heap.size+1+1,0,none⟩=some (.slice A4 n4 p4))):=fun W' hW=>⟨(HX0.out.later hW HX0.out.lt).at 0 rfl,(HX1.out.later hW HX1.out.lt).at 0 rfl,(HX1.out.later hW HX1.out.lt).at 1 rfl,(HX1.out.later hW HX1.out.lt).at 2 rfl,(HX1.out.later hW HX1.out.lt).at 3 rfl,(HX2.out.later hW HX2.out.lt).at 0 rfl⟩;go_enter Tryz.func25,Tryz.ntmps25;go_wp2_with fail;rw[←hWB];clear hWB;refine(HK1.out _ HBB.out).mono ?_;rintro e w1 ⟨rfl,hb1⟩;have HB1:=zh hb1;clear hb1;cases xt
 · have HE:Hid (R=(1,[])):=by unfold Hid;rw[HR.out];rfl
   go_wp2_with fail;refine bodyPost_ret (v:=.tuple #[.slice (some ⟨_,0,none⟩) 0 0,.int .i64 _]) (by simp[results,Tryz.results25,go_sem];try exact⟨rfl,rfl⟩) rfl ?_;exact⟨_,by rw[HE.out],by rw[HE.out];exact uY _ _ (HBB.out.later HB1.out).size,(HBB.out.later HB1.out).later (Below.new _ _)⟩
 obtain⟨x0,x1,x2,x3,x4,x5⟩:=HS1.out _ HB1.out;go_wp2_with fail;refine(HK2.out _ (HBB.out.later HB1.out)).mono ?_;rintro e w2 ⟨rfl,hb2⟩;have HB2:=zh (HB1.out.later hb2);clear hb2 x0 x1 x2 x3 x4 x5;cases xb
 · have HE:Hid (R=(1,[])):=by unfold Hid;rw[HR.out];rfl
   go_wp2_with fail;refine bodyPost_ret (v:=.tuple #[.slice (some ⟨_,0,none⟩) 0 0,.int .i64 _]) (by simp[results,Tryz.results25,go_sem];try exact⟨rfl,rfl⟩) rfl ?_;exact⟨_,by rw[HE.out],by rw[HE.out];exact uY _ _ (HBB.out.later HB2.out).size,(HBB.out.later HB2.out).later (Below.new _ _)⟩
 obtain⟨x0,x1,x2,x3,x4,x5⟩:=HS1.out _ HB2.out;go_wp2_with fail;refine(HK3.out (by first | rfl | trivial) _ (HBB.out.later HB2.out)).mono ?_;rintro e w3 ⟨rfl,hb3⟩;have HB3:=zh (HB2.out.later hb3);clear hb3 x0 x1 x2 x3 x4 x5;cases xr
 · have HE:Hid (R=(1,[])):=by unfold Hid;rw[HR.out];rfl
   go_wp2_with fail;refine bodyPost_ret (v:=.tuple #[.slice (some ⟨_,0,none⟩) 0 0,.int .i64 _]) (by simp[results,Tryz.results25,go_sem];try exact⟨rfl,rfl⟩) rfl ?_;exact⟨_,by rw[HE.out],by rw[HE.out];exact uY _ _ (HBB.out.later HB3.out).size,(HBB.out.later HB3.out).later (Below.new _ _)⟩
 obtain⟨x0,x1,x2,x3,x4,x5⟩:=HS1.out _ HB3.out;have hpos:=HPOS.out (by first | rfl | trivial) (by first | rfl | trivial);have HK6:=zh (HK5.out (by first | rfl | trivial) (by first | rfl | trivial));have HRB:Hid (R=if 0≤atI ns (r.getD 0 ByteArray.empty) then (5,[]) else if 24≤ns.length then (4,[]) else (0,IL)):=by unfold Hid;rw[HR.out];rfl
 clear HK5 HPOS HR;go_wp2_with fail;refine(HK4.out _ (HBB.out.later HB3.out)).mono ?_;rintro e w4 ⟨v,cs,rfl,ho,hc,hb4⟩;obtain⟨A5,cap5,rfl,hcap5,hN5⟩:=wK ho rfl hc hb4;have HN5:=zh hN5;have HB4:=zh (HB3.out.later hb4);clear hb4 ho hc hN5 x0 x1 x2 x3 x4 x5;obtain⟨x0,x1,x2,x3,x4,x5⟩:=HS1.out _ HB4.out;rw[HRL.out]at hpos;obtain⟨rb,ro,rfl,hrb,hrc⟩:=HRS.out.2 hpos;have hr0:=((HBB.out.later HB4.out).cell (p:=⟨rb,ro,none⟩) hrb).trans (hrc 0 hpos);have HKA:=zh (fun W (hW:Below w4.heap.size w4 W)=>zJA A5 ns.length cap5 ns (r.getD 0 ByteArray.empty) W (HN5.out.later hW) HL.out H2.out);have HNL:=zh HL.out;clear hrc;generalize r.getD 0 ByteArray.empty=key at *;generalize atI ns key=ix at *;generalize hnl:ns.length=nl at *;have hnl2:nl≤1048576:=by have:=HNL.out;omega
 clear hnl;go_wp2_with fail
 first
   | (refine(HKA.out _ (by exact(Below.refl _ _))).mono ?_
      rintro e w5 ⟨rfl,hb5⟩)
   | (go_region_held3 (fun W'=>W'.cell? ⟨w.heap.size+1+1,0,none⟩=some (.slice (some ⟨rb,ro,none⟩) n4 p4)∧W'.cell? ⟨rb,ro,none⟩=some (.string key)) (first | exact⟨x5,hr0⟩ | exact⟨cell_later hb5 x5,cell_later hb5 hr0⟩)
       ((go_at_call 80;refine(HKA.out _ (by exact(Below.refl _ _).drew)).mono ?_;rintro e w5 ⟨rfl,hb5'⟩;have hb5:=xC hb5';clear hb5')))
 have HB5:=zh (HB4.out.later hb5);clear hb5 x0 x1 x2 x3 x4 x5 hr0;obtain⟨x0,x1,x2,x3,x4,x5⟩:=HS1.out _ HB5.out;by_cases h0:0≤ix
 · have HE:Hid (R=(5,[])):=by unfold Hid;rw[HRB.out,if_pos h0]
   go_wp2_with fail;refine bodyPost_ret (v:=.tuple #[.slice (some ⟨_,0,none⟩) 0 0,.int .i64 _]) (by simp[results,Tryz.results25,go_sem];try exact⟨rfl,rfl⟩) rfl ?_;exact⟨_,by rw[HE.out],by rw[HE.out];exact uY _ _ (HBB.out.later HB5.out).size,(HBB.out.later HB5.out).later (Below.new _ _)⟩
 by_cases h24:24≤nl
 · have HE:Hid (R=(4,[])):=by unfold Hid;rw[HRB.out,if_neg h0,if_pos h24]
   go_wp2_with fail;refine bodyPost_ret (v:=.tuple #[.slice (some ⟨_,0,none⟩) 0 0,.int .i64 _]) (by simp[results,Tryz.results25,go_sem];try exact⟨rfl,rfl⟩) rfl ?_;exact⟨_,by rw[HE.out],by rw[HE.out];exact uY _ _ (HBB.out.later HB5.out).size,(HBB.out.later HB5.out).later (Below.new _ _)⟩
 have HE:Hid (R=(0,IL)):=by unfold Hid;rw[HRB.out,if_neg h0,if_neg h24]
 go_wp2_with fail;refine(HK6.out _ (HBB.out.later HB5.out)).mono ?_;rintro e w6 ⟨v6,rfl,hc6,hb6⟩;obtain⟨A6,cap6,rfl,_,_⟩:=hc6.reads;have HC6:=zh (hc6.base (HBB.out.later HB5.out).size);have HB6:=zh ((HBB.out.later HB5.out).later hb6);clear hc6 hb6 x0 x1 x2 x3 x4 x5;go_wp2_with fail;refine bodyPost_ret (v:=.tuple #[.slice A6 _ cap6,.int .i64 _]) (by simp[results,Tryz.results25,go_sem];try exact⟨rfl,rfl⟩) rfl ?_;exact⟨_,by rw[HE.out],by rw[HE.out];exact HC6.out,HB6.out⟩
end Go.Proofs.YtfpcjhajjejpdaaGreatDoor
namespace Go.Proofs.YtfpcjhajjejpdaaGreatDoor
open Go.RowKit
set_option linter.unusedVariables false
theorem zEq {d:ChgD} (h:xP d=true):d.small:=by
 unfold xP zH0 at h;simp only[Bool.and_eq_true,Bool.or_eq_true,decide_eq_true_eq]at h;obtain⟨⟨h1,h2⟩,h3⟩:=h;unfold zB0 at h1;simp only[Bool.and_eq_true,decide_eq_true_eq]at h1;unfold xQ at h2;simp only[Bool.and_eq_true,decide_eq_true_eq,List.all_eq_true]at h2;refine⟨by omega,⟨by omega,fun s hs=>?_⟩,?_⟩
 · have h4:=h2.2 s hs;unfold wV at h4;simp only[Bool.and_eq_true,decide_eq_true_eq]at h4;omega
 · rcases h3 with ⟨_,h3⟩ | ⟨_,h3⟩
   · omega
   · rw[h3];decide
theorem zJH {fs:List NodeD} {b:TableD} {r:List ByteArray}:(∀d∈(zIm fs b r).2,d.small)∧(zIm fs b r).2.length≤1048576:=by
 unfold zIm;split
 · next hc =>
   simp only[Bool.and_eq_true]at hc;split
   · exact⟨fun d hd=>by simp at hd,by simp⟩
   · split
     · exact⟨fun d hd=>by simp at hd,by simp⟩
     · refine⟨fun d hd=>?_,?_⟩
       · rcases List.mem_cons.1 hd with h | h
         · rw[h];exact zEq (zKZ hc.2.1 hc.2.2)
         · exact zEq (zLm 1 (.inl rfl) hc.2.1 hc.2.2 d h).1
       · have h1:=zKF (b:=b) (r:=r) 1;have h2:=uO hc.2.1;show(zDr b.glob r::zAP 1 b r).length≤_;rw[List.length_cons];omega
 · exact⟨fun d hd=>by simp at hd,by simp⟩
theorem zHJ {ss:List ByteArray} {m:Nat} (h1:ss.length≤m) (h2:∀s∈ss,s.size≤16) (hm:m≤1000):yH ss:=⟨by omega,fun s hs=>by have:=h2 s hs;omega⟩
set_option maxRecDepth 100000 in
theorem zGI (p K:Nat) (b0 b1 b2 b3:Value) (b:TableD) (w:World) (h:SrcR w p K) (hb:TableR w w.heap.size b0 b1 b2 b3 b) (hbs:b.small) (hc6:b.cols.length≤6) (hK:K≤68719476736) :
 Calls Tryz.prog 94 #[.pointer (some ⟨p,0,none⟩),.agg #[b0,b1,b2,b3]] w (zCs p (K+200) w):=by
 have hpw:=h.lt;have HTB:Hid (∀W,DrW p w W→TableR W W.heap.size b0 b1 b2 b3 b):=fun W hd=>by obtain⟨K',hd⟩:=hd;exact h.reads_table hb hd
 have HKO:=zh (fun W (hd:DrW p w W)=>zCE b0 b1 b2 b3 b W (HTB.out W hd) hbs);have HKR:=zh (fun W K' (hd:Drawn p K' w W) (hk:K'≤137438953472)=>zDW p K' b0 b1 b2 b3 b W hd.src (HTB.out W (wC hd)) hc6 (by omega));have HKI:=zh (fun W A n c r0 (fs:List NodeD) r (hd:DrW p w W) (ht:Nodes W W.heap.size A n fs) (hr:RowR W W.heap.size r0 r) (hts:vF fs) (hsm:yH r)=>zBT A n c b0 b1 b2 b3 r0 fs b r W ht (HTB.out W hd) hr hts hbs hsm);obtain⟨rfl,rfl,⟨A2,n2,p2,rfl,s2,k2⟩,⟨A3,n3,p3,rfl,s3,k3⟩⟩:=hb;clear s2 s3 hc6 hbs;generalize hbt:wM b=bt at *;generalize hnm:b.name=nm at *;generalize hgl:b.glob=gl at *;clear hbt hnm hgl;obtain⟨WB,hWB⟩:∃WB,WB=((w.alloc (.cells #[.string nm,.string gl,.slice A2 n2 p2,.slice A3 n3 p3] 29)).alloc (.cells #[.slice none 0 0] 26)).alloc (.cells #[.slice none 0 0] 26):=⟨_,rfl⟩;have HT0:Hid (Blk WB w.heap.size 29 #[.string nm,.string gl,.slice A2 n2 p2,.slice A3 n3 p3]):=by subst hWB;exact zK0 _ _ _ _
 have HS0:Hid (TrS p K w (w.heap.size+1+1) (w.heap.size+1) (.slice none 0 0) [] WB):=by subst hWB;exact⟨xH _ _,zDF,zI0 _ _ _ _,uI _ _ _ _,(Drawn.refl h).later (wJ w _ _ _)⟩
 have t0:=HT0.out.cell 0;have t1:=HT0.out.cell 1;have t2:=HT0.out.cell 2;have t3:=HT0.out.cell 3;simp at t0 t1 t2 t3;clear h;go_enter Tryz.func94,Tryz.ntmps94;go_wp2_with fail;rw[←hWB];clear hWB;first | (refine(HKO.out _ (wC HS0.out.draw)).mono ?_) | (go_wp2_with fail;refine(HKO.out _ (wC HS0.out.draw)).mono ?_)
 rintro e w1 ⟨rfl,hb1⟩;have HS1:=zh (HS0.out.later hb1);have HT1:=zh (HT0.out.later hb1 HT0.out.lt);clear hb1 t0 t1 t2 t3 HS0 HT0 HKO;cases bt
 · have HKL:=zh (zGK p K w1 HS1.out.draw.src (by omega));go_wp2_with fail;refine HKL.out.mono ?_;rintro e w2 ⟨v2,gs,rfl,hn2,ht2,hd2⟩;obtain⟨A4,cap4,rfl,_,_⟩:=hn2.reads;have HS2:=zh (HS1.out.drawn hd2 (by omega) (by omega));have HN2:=zh (hn2.base HS1.out.draw.chg.size);have HTR:=zh ht2;clear hn2 ht2 hd2 HKL;have r0:=HS2.out.res.cell 0;have rf:=HS2.out.res.frozen 0;have rz:=HS2.out.res.lt;simp at r0;go_wp2_with fail;refine bodyPost_ret (v:=.agg #[.slice A4 gs.length cap4]) (by simp[results,Tryz.results94,go_sem,r0]) rfl ?_;exact⟨_,gs,rfl,HN2.out.setBlk HS2.out.res (by decide) (by decide),HTR.out,(HS2.out.draw.set (show w.heap.size≤w.heap.size+1 by omega) hpw 0 _).mono (by omega)⟩
 have HK1:=zh (uE p K 7 w1 HS1.out.draw.src (by omega) (by omega));go_wp2_with fail;refine HK1.out.mono ?_;rintro e w2 ⟨x,rfl,hx,hd1⟩;have HS2:=zh (HS1.out.drawn hd1 (by omega) (by omega));have HT2:=zh (Blk.drawn HT1.out hd1 (by omega));have hx6:x≤6:=by omega
 clear hd1 HS1 HT1 HK1 hx;go_wp2_with fail;go_loopw [6] (fun kv wr=>∃(k:Nat) (v:Value) (fs:List NodeD),kv=.int .i64 k∧k≤6∧Hid (TrS p (K+2+16*(6-k)) w (w.heap.size+1+1) (w.heap.size+1) v fs wr)∧Hid (Blk wr w.heap.size 29 #[.string nm,.string gl,.slice A2 n2 p2,.slice A3 n3 p3])) (fun kv _=>(intOf kv).toNat);case atStart=>exact⟨x,_,[],rfl,hx6,HS2.out.mono (by omega),HT2.out⟩
 case round =>
  obtain⟨k,v,fs,rfl,hk,HS,HT⟩:=hrel;clear HS2 HT2;obtain⟨A,cap,rfl,hcap,_⟩:=HS.out.own.reads;generalize hKK:K+2+16*(6-k)=KK at *;have hwo:=HS.out.draw.chg.size;have hqo:=HS.out.box.lt;have t0:=HT.out.cell 0;have t1:=HT.out.cell 1;have t2:=HT.out.cell 2;have t3:=HT.out.cell 3;have q0:=HS.out.box.cell 0;simp at t0 t1 t2 t3 q0;by_cases hk0:0<k
  · have hkB:KK+16≤K+2+16*(6-(k-1)):=by omega
    have hKb:KK≤68719477000:=by omega
    clear hKK;have HKr:=zh (HKR.out wr.drew KK (yE HS.out.draw) (by omega));go_wp2_with fail
    go_region_held3 (fun w'=>w'.cell? ⟨w.heap.size,0,none⟩=some (.string nm)∧w'.cell? ⟨w.heap.size,1,none⟩=some (.string gl)∧w'.cell? ⟨w.heap.size,2,none⟩=some (.slice A2 n2 p2)∧w'.cell? ⟨w.heap.size,3,none⟩=some (.slice A3 n3 p3)∧w'.cell? ⟨w.heap.size+1+1,0,none⟩=some (.slice A fs.length cap))
     (first | with_reducible exact⟨t0,t1,t2,t3,q0⟩ | with_reducible exact⟨y0,y1,y2,y3,y4⟩ | with_reducible exact⟨z0,z1,z2,z3,z4⟩ | go_keep)
     (first
       | (go_at_call 141
          refine HKr.out.mono ?_;rintro e w3 ⟨rv,rs,rfl,hsub,hpos,hlen,hall,hd3'⟩;have hd3:=hd3'.pre (Below.refl _ wr).drew;have HS3:=zh (HS.out.drawn hd3 (by omega) (by omega));have HT3:=zh (Blk.drawn HT.out hd3 (by omega));obtain⟨AR,capR,rfl,hcR,hsR⟩:=hsub.strs;have HKi:=zh (fun hN=>HKI.out w3 A fs.length cap (.slice AR rs.length capR) fs rs (wC HS3.out.draw) hN ⟨AR,_,capR,rfl,hsR,hcR⟩ (wN HS.out.tree) (zHJ hlen hall (by omega)));have HIS:=zh (zJH (fs:=fs) (b:=b) (r:=rs));have y0:=HT3.out.cell 0;have y1:=HT3.out.cell 1;have y2:=HT3.out.cell 2;have y3:=HT3.out.cell 3;have y4:=HS3.out.box.cell 0;simp at y0 y1 y2 y3 y4
          clear hd3 hd3' hsub hpos hlen hall hsR)
       | (go_at_call 25
          refine(HKi.out (by obtain⟨A',c',e',_,hN⟩:=HS3.out.own.reads;injection e' with e1 _ e3;subst e1 e3;exact hN)).mono ?_;generalize zIm fs b rs=IB at *;obtain⟨code,L⟩:=IB;rintro e w4 ⟨lv,rfl,hcl,hb4⟩;have HS4:=zh (HS3.out.later hb4);have HT4:=zh (HT3.out.later hb4 HT3.out.lt);have HC4:=zh hcl;have z0:=HT4.out.cell 0;have z1:=HT4.out.cell 1;have z2:=HT4.out.cell 2;have z3:=HT4.out.cell 3;have z4:=HS4.out.box.cell 0;simp at z0 z1 z2 z3 z4
          clear hb4 hcl HKi))
    clear t0 t1 t2 t3 q0 y0 y1 y2 y3 y4 HKr;have hqz:=HS4.out.box.lt;by_cases hc:code=0
    · obtain⟨AL,capL,rfl,_,hcl⟩:=HC4.out.reads;have HKD:Hid (Calls Tryz.prog 28 #[.agg #[.slice A fs.length cap],.slice AL L.length capL] w4 (zAe (xJ fs L) w4)):=by obtain⟨A',c',e',_,hN⟩:=HS4.out.own.reads;injection e' with e1 _ e3;subst e1 e3;exact zEV A fs.length cap AL L.length capL fs L w4 hN (wN HS4.out.tree) hcl HIS.out.2 HIS.out.1
      have HDT:Hid ((xJ fs L).1=0→uA (xJ fs L).2=true):=zEi;subst hc;clear hcl HIS HC4;generalize xJ fs L=DB at *;obtain⟨c2,gs⟩:=DB;go_wp2_with fail;refine HKD.out.mono ?_;rintro e w5 ⟨v5,rfl,hn5,hb5⟩;obtain⟨A5,cap5,rfl,_,_⟩:=hn5.reads;have HS5:=zh (HS4.out.later hb5);have HT5:=zh (HT4.out.later hb5 HT4.out.lt);have HN5:=zh (hn5.base HS4.out.draw.chg.size);clear hn5 hb5 HKD HS4 HT4 z0 z1 z2 z3 z4 hqz;have k0:=HS5.out.box.cell 0;have kf:=HS5.out.box.frozen 0;have kz:=HS5.out.box.lt;simp at k0;by_cases hc2:c2=0
      · have HTG:=zh (HDT.out hc2);have HSb:=zh ((HS5.out.put HN5.out HTG.out (by omega) hpw (by omega)).later (Below.new _ (.cells #[.slice A5 gs.length cap5] 26)));have HTb:=zh ((HT5.out.far (p:=⟨w.heap.size+1+1,0,none⟩) (show w.heap.size≠w.heap.size+1+1 by omega) (.slice A5 gs.length cap5)).alloc (.cells #[.slice A5 gs.length cap5] 26));subst hc2;go_wp2_with fail;go_roundw;case rel=>exact⟨k-1,_,gs,by go_num,by omega,HSb.out.mono (by omega),HTb.out⟩
        case measure=>simp[intOf];omega
      · have hb2:(c2==(0:Int))=false:=beq_eq_false_iff_ne.2 hc2;have HSb:=zh (HS5.out.later (Below.new _ (.cells #[.slice A5 gs.length cap5] 26)));have HTb:=zh (HT5.out.alloc (.cells #[.slice A5 gs.length cap5] 26));go_wp2_with fail;go_roundw;case rel=>exact⟨k-1,_,fs,by go_num,by omega,HSb.out.mono (by omega),HTb.out⟩
        case measure=>simp[intOf];omega
    · have hb2:(code==(0:Int))=false:=beq_eq_false_iff_ne.2 hc;go_wp2_with fail;go_roundw;case rel=>exact⟨k-1,_,fs,by go_num,by omega,HS4.out.mono (by omega),HT4.out⟩
      case measure=>simp[intOf];omega
  · obtain rfl:k=0:=by omega
    have hKb:KK≤68719477000:=by omega
    have hKe:KK=K+2+96:=by omega
    have HK3:=zh (yV p KK 2 wr HS.out.draw.src (by omega) (by omega));clear hKK;go_wp2_with fail;refine HK3.out.mono ?_;rintro e w3 ⟨bb,rfl,hd3⟩;have HS3:=zh (HS.out.drawn hd3 (by omega) (by omega));clear hd3 HK3 t0 t1 t2 t3 q0 HT;have k0:=HS3.out.box.cell 0;have kf:=HS3.out.box.frozen 0;have kz:=HS3.out.box.lt;have r0:=HS3.out.res.cell 0;have rf:=HS3.out.res.frozen 0;have rz:=HS3.out.res.lt;simp at k0 r0;cases bb
    · go_wp2_with fail;refine bodyPost_ret (v:=.agg #[.slice A fs.length cap]) (by simp[results,Tryz.results94,go_sem,r0]) rfl ?_;exact⟨_,fs,rfl,HS3.out.own.setBlk HS3.out.res (by decide) (by decide),HS3.out.tree,(HS3.out.draw.set (show w.heap.size≤w.heap.size+1 by omega) hpw 0 _).mono (by omega)⟩
    · have HSL:=zh (HS3.out.later (Below.new w3 (.cells #[.string ⟨#[49]⟩] 9)));have HKP:Hid (Calls Tryz.prog 95 #[.agg #[.slice A fs.length cap],.string ⟨#[65]⟩,.slice (some ⟨w3.heap.size,0,none⟩) 1 1,.string ⟨#[118]⟩] (w3.alloc (.cells #[.string ⟨#[49]⟩] 9)) (zAe (uQ fs ⟨#[65]⟩ [⟨#[49]⟩] ⟨#[118]⟩) (w3.alloc (.cells #[.string ⟨#[49]⟩] 9)))):=by obtain⟨A',c',e',hc',hN⟩:=HSL.out.own.reads;injection e' with e1 _ e3;subst e1 e3;exact zBn A fs.length cap fs ⟨#[65]⟩ (some ⟨w3.heap.size,0,none⟩) 1 1 [⟨#[49]⟩] ⟨#[118]⟩ _ hN hcap (wN HSL.out.tree) (wY rfl rfl rfl) (by omega) (zBc (by decide) (by decide) (by decide) (by decide))
      have HDT:Hid ((uQ fs ⟨#[65]⟩ [⟨#[49]⟩] ⟨#[118]⟩).1=0→uA (uQ fs ⟨#[65]⟩ [⟨#[49]⟩] ⟨#[118]⟩).2=true):=zAE;generalize uQ fs ⟨#[65]⟩ [⟨#[49]⟩] ⟨#[118]⟩=DB at *;obtain⟨c2,gs⟩:=DB;go_wp2_with fail;refine HKP.out.mono ?_;rintro e w5 ⟨v5,rfl,hn5,hb5⟩;obtain⟨A5,cap5,rfl,_,_⟩:=hn5.reads;have HS5:=zh (HSL.out.later hb5);have HN5:=zh (hn5.base HSL.out.draw.chg.size);clear hn5 hb5 HKP HSL k0 kf kz r0 rf rz;have k0:=HS5.out.box.cell 0;have kf:=HS5.out.box.frozen 0;have kz:=HS5.out.box.lt;have r0:=HS5.out.res.cell 0;have rf:=HS5.out.res.frozen 0;have rz:=HS5.out.res.lt;simp at k0 r0;by_cases hc2:c2=0
      · have HTG:=zh (HDT.out hc2);have HSb:=zh (HS5.out.put HN5.out HTG.out (by omega) hpw (by omega));subst hc2;go_wp2_with fail;refine bodyPost_ret (v:=.agg #[.slice A5 gs.length cap5]) (by simp[results,Tryz.results94,go_sem,World.cell?_alloc_lt,rz,r0]) rfl ?_;exact⟨_,gs,rfl,(HSb.out.own.setBlk HSb.out.res (by decide) (by decide)).later (Below.new _ _),HTG.out,((HSb.out.draw.set (show w.heap.size≤w.heap.size+1 by omega) hpw 0 _).later (Below.new _ _)).mono (by omega)⟩
      · have hb2:(c2==(0:Int))=false:=beq_eq_false_iff_ne.2 hc2;go_wp2_with fail;refine bodyPost_ret (v:=.agg #[.slice A fs.length cap]) (by simp[results,Tryz.results94,go_sem,World.cell?_alloc_lt,rz,r0]) rfl ?_;exact⟨_,fs,rfl,(HS5.out.own.setBlk HS5.out.res (by decide) (by decide)).later (Below.new _ _),HS5.out.tree,((HS5.out.draw.set (show w.heap.size≤w.heap.size+1 by omega) hpw 0 _).later (Below.new _ _)).mono (by omega)⟩
end Go.Proofs.YtfpcjhajjejpdaaGreatDoor
