import Derived.Test.YtgmaamnofhmecaaGreatDoorV46
import Derived.Test.YtgmaamnofhmecaaGreatDoorV27
import Derived.Test.YtgmaamnofhmecaaGreatDoorV21
open Go.Lib renaming hid → zh
namespace Go.Proofs.YtgmaamnofhmecaaGreatDoor
open Go.RowKit
set_option linter.unusedVariables false
theorem uU {d:ChgD} (h:vF d=true):d.small:=by
 unfold vF wC at h;simp only[Bool.and_eq_true,Bool.or_eq_true,decide_eq_true_eq]at h;obtain⟨⟨h1,h2⟩,h3⟩:=h;unfold xC at h1;simp only[Bool.and_eq_true,decide_eq_true_eq]at h1;unfold yK at h2;simp only[Bool.and_eq_true,decide_eq_true_eq,List.all_eq_true]at h2;refine⟨by omega,⟨by omega,fun s hs=>?_⟩,?_⟩
 · have h4:=h2.2 s hs;unfold xS at h4;simp only[Bool.and_eq_true,decide_eq_true_eq]at h4;omega
 · rcases h3 with ⟨_,h3⟩ | ⟨_,h3⟩
   · omega
   · rw[h3];decide
theorem zJG {fs:List NodeD} {b:TableD} {r:List ByteArray}:(∀d∈(zIl fs b r).2,d.small)∧(zIl fs b r).2.length≤1048576:=by
 unfold zIl;split
 · next hc =>
   simp only[Bool.and_eq_true]at hc;split
   · exact⟨fun d hd=>by simp at hd,by simp⟩
   · split
     · exact⟨fun d hd=>by simp at hd,by simp⟩
     · refine⟨fun d hd=>?_,?_⟩
       · rcases List.mem_cons.1 hd with h | h
         · rw[h];exact uU (zFR hc.2.1 hc.2.2)
         · exact uU (zCA 1 (.inl rfl) hc.2.1 hc.2.2 d h).1
       · have h1:=zHc (b:=b) (r:=r) 1;have h2:=vA hc.2.1;show(xT b.glob r::yG 1 b r).length≤_;rw[List.length_cons];omega
 · exact⟨fun d hd=>by simp at hd,by simp⟩
theorem zHO {ss:List ByteArray} {m:Nat} (h1:ss.length≤m) (h2:∀s∈ss,s.size≤16) (hm:m≤1000):wL ss:=⟨by omega,fun s hs=>by have:=h2 s hs;omega⟩
set_option maxRecDepth 100000 in
set_option maxHeartbeats 40000000 in
theorem zGM (p K:Nat) (b0 b1 b2 b3:Value) (b:TableD) (w:World) (h:SrcR w p K) (hb:TableR w w.heap.size b0 b1 b2 b3 b) (hbs:b.small) (hc6:b.cols.length≤6) (hK:K≤68719476736) :
 Calls Tryz.prog 120 #[.pointer (some ⟨p,0,none⟩),.agg #[b0,b1,b2,b3]] w (zCP p (K+200) w):=by
 have hpw:=h.lt;have HTB:Hid (∀W,DrW p w W→TableR W W.heap.size b0 b1 b2 b3 b):=fun W hd=>by obtain⟨K',hd⟩:=hd;exact h.reads_table hb hd
 have HKO:=zh (fun W (hd:DrW p w W)=>zAu b0 b1 b2 b3 b W (HTB.out W hd) hbs);have HKR:=zh (fun W K' (hd:Drawn p K' w W) (hk:K'≤137438953472)=>zBs p K' b0 b1 b2 b3 b W hd.src (HTB.out W (vB hd)) hc6 (by omega));have HKI:=zh (fun W A n c r0 (fs:List NodeD) r (hd:DrW p w W) (ht:Nodes W W.heap.size A n fs) (hr:RowR W W.heap.size r0 r) (hts:wB fs) (hsm:wL r)=>zCq A n c b0 b1 b2 b3 r0 fs b r W ht (HTB.out W hd) hr hts hbs hsm);obtain⟨rfl,rfl,⟨A2,n2,p2,rfl,s2,k2⟩,⟨A3,n3,p3,rfl,s3,k3⟩⟩:=hb;clear s2 s3 hc6 hbs;generalize hbt:zF0 b=bt at *;generalize hnm:b.name=nm at *;generalize hgl:b.glob=gl at *;clear hbt hnm hgl;obtain⟨WB,hWB⟩:∃WB,WB=((w.alloc (.cells #[.string nm,.string gl,.slice A2 n2 p2,.slice A3 n3 p3] 29)).alloc (.cells #[.slice none 0 0] 26)).alloc (.cells #[.slice none 0 0] 26):=⟨_,rfl⟩;have HT0:Hid (Blk WB w.heap.size 29 #[.string nm,.string gl,.slice A2 n2 p2,.slice A3 n3 p3]):=by subst hWB;exact wN _ _ _ _
 have HS0:Hid (TrS p K w (w.heap.size+1+1) (w.heap.size+1) (.slice none 0 0) [] WB):=by subst hWB;exact⟨wH _ _,zDZ,wJ _ _ _ _,wK _ _ _ _,(Drawn.refl h).later (zL0 w _ _ _)⟩
 have t0:=HT0.out.cell 0;have t1:=HT0.out.cell 1;have t2:=HT0.out.cell 2;have t3:=HT0.out.cell 3;simp at t0 t1 t2 t3;clear h;go_enter Tryz.func120,Tryz.ntmps120;go_wp2_with fail;rw[←hWB];clear hWB;first | (refine(HKO.out _ (vB HS0.out.draw)).mono ?_) | (go_wp2_with fail;refine(HKO.out _ (vB HS0.out.draw)).mono ?_)
 rintro e w1 ⟨rfl,hb1⟩;have HS1:=zh (HS0.out.later hb1);have HT1:=zh (HT0.out.later hb1 HT0.out.lt);clear hb1 t0 t1 t2 t3 HS0 HT0 HKO;cases bt
 · have HKL:=zh (zGP p K w1 HS1.out.draw.src (by omega));go_wp2_with fail;refine HKL.out.mono ?_;rintro e w2 ⟨v2,gs,rfl,hn2,ht2,hd2⟩;obtain⟨A4,cap4,rfl,_,_⟩:=hn2.reads;have HS2:=zh (HS1.out.drawn hd2 (by omega) (by omega));have HN2:=zh (hn2.base HS1.out.draw.chg.size);have HTR:=zh ht2;clear hn2 ht2 hd2 HKL;have r0:=HS2.out.res.cell 0;have rf:=HS2.out.res.frozen 0;have rz:=HS2.out.res.lt;simp at r0;go_wp2_with fail;refine bodyPost_ret (v:=.agg #[.slice A4 gs.length cap4]) (by simp[results,Tryz.results120,go_sem,r0]) rfl ?_;exact⟨_,gs,rfl,HN2.out.setBlk HS2.out.res (by decide) (by decide),HTR.out,(HS2.out.draw.set (show w.heap.size≤w.heap.size+1 by omega) hpw 0 _).mono (by omega)⟩
 have HK1:=zh (zO0 p K 7 w1 HS1.out.draw.src (by omega) (by omega));go_wp2_with fail;refine HK1.out.mono ?_;rintro e w2 ⟨x,rfl,hx,hd1⟩;have HS2:=zh (HS1.out.drawn hd1 (by omega) (by omega));have HT2:=zh (Blk.drawn HT1.out hd1 (by omega));have hx6:x≤6:=by omega
 clear hd1 HS1 HT1 HK1 hx;go_wp2_with fail;go_loopw [6] (fun kv wr=>∃(k:Nat) (v:Value) (fs:List NodeD),kv=.int .i64 k∧k≤6∧Hid (TrS p (K+2+16*(6-k)) w (w.heap.size+1+1) (w.heap.size+1) v fs wr)∧Hid (Blk wr w.heap.size 29 #[.string nm,.string gl,.slice A2 n2 p2,.slice A3 n3 p3])) (fun kv _=>(intOf kv).toNat);case atStart=>exact⟨x,_,[],rfl,hx6,HS2.out.mono (by omega),HT2.out⟩
 case round =>
  obtain⟨k,v,fs,rfl,hk,HS,HT⟩:=hrel;clear HS2 HT2;obtain⟨A,cap,rfl,hcap,_⟩:=HS.out.own.reads;generalize hKK:K+2+16*(6-k)=KK at *;have hwo:=HS.out.draw.chg.size;have hqo:=HS.out.box.lt;have t0:=HT.out.cell 0;have t1:=HT.out.cell 1;have t2:=HT.out.cell 2;have t3:=HT.out.cell 3;have q0:=HS.out.box.cell 0;simp at t0 t1 t2 t3 q0;by_cases hk0:0<k
  · have hkB:KK+16≤K+2+16*(6-(k-1)):=by omega
    have hKb:KK≤68719477000:=by omega
    clear hKK;have HKr:=zh (HKR.out wr.drew KK (xF HS.out.draw) (by omega));go_wp2_with fail
    go_region_held3 (fun w'=>w'.cell? ⟨w.heap.size,0,none⟩=some (.string nm)∧w'.cell? ⟨w.heap.size,1,none⟩=some (.string gl)∧w'.cell? ⟨w.heap.size,2,none⟩=some (.slice A2 n2 p2)∧w'.cell? ⟨w.heap.size,3,none⟩=some (.slice A3 n3 p3)∧w'.cell? ⟨w.heap.size+1+1,0,none⟩=some (.slice A fs.length cap))
     (first | with_reducible exact⟨t0,t1,t2,t3,q0⟩ | with_reducible exact⟨y0,y1,y2,y3,y4⟩ | with_reducible exact⟨z0,z1,z2,z3,z4⟩ | go_keep)
     (first
       | (go_at_call 123
          refine HKr.out.mono ?_;rintro e w3 ⟨rv,rs,rfl,hsub,hpos,hlen,hall,hd3'⟩;have hd3:=hd3'.pre (Below.refl _ wr).drew;have HS3:=zh (HS.out.drawn hd3 (by omega) (by omega));have HT3:=zh (Blk.drawn HT.out hd3 (by omega));obtain⟨AR,capR,rfl,hcR,hsR⟩:=hsub.strs;have HKi:=zh (fun hN=>HKI.out w3 A fs.length cap (.slice AR rs.length capR) fs rs (vB HS3.out.draw) hN ⟨AR,_,capR,rfl,hsR,hcR⟩ (xM HS.out.tree) (zHO hlen hall (by omega)));have HIS:=zh (zJG (fs:=fs) (b:=b) (r:=rs));have y0:=HT3.out.cell 0;have y1:=HT3.out.cell 1;have y2:=HT3.out.cell 2;have y3:=HT3.out.cell 3;have y4:=HS3.out.box.cell 0;simp at y0 y1 y2 y3 y4
          clear hd3 hd3' hsub hpos hlen hall hsR)
       | (go_at_call 186
          refine(HKi.out (by obtain⟨A',c',e',_,hN⟩:=HS3.out.own.reads;injection e' with e1 _ e3;subst e1 e3;exact hN)).mono ?_;generalize zIl fs b rs=IB at *;obtain⟨code,L⟩:=IB;rintro e w4 ⟨lv,rfl,hcl,hb4⟩;have HS4:=zh (HS3.out.later hb4);have HT4:=zh (HT3.out.later hb4 HT3.out.lt);have HC4:=zh hcl;have z0:=HT4.out.cell 0;have z1:=HT4.out.cell 1;have z2:=HT4.out.cell 2;have z3:=HT4.out.cell 3;have z4:=HS4.out.box.cell 0;simp at z0 z1 z2 z3 z4
          clear hb4 hcl HKi))
    clear t0 t1 t2 t3 q0 y0 y1 y2 y3 y4 HKr;have hqz:=HS4.out.box.lt;by_cases hc:code=0
    · obtain⟨AL,capL,rfl,_,hcl⟩:=HC4.out.reads;have HKD:Hid (Calls Tryz.prog 16 #[.agg #[.slice A fs.length cap],.slice AL L.length capL] w4 (zAj (uA fs L) w4)):=by obtain⟨A',c',e',_,hN⟩:=HS4.out.own.reads;injection e' with e1 _ e3;subst e1 e3;exact vN A fs.length cap AL L.length capL fs L w4 hN (xM HS4.out.tree) hcl HIS.out.2 HIS.out.1
      have HDT:Hid ((uA fs L).1=0→xA (uA fs L).2=true):=zEC;subst hc;clear hcl HIS HC4;generalize uA fs L=DB at *;obtain⟨c2,gs⟩:=DB;go_wp2_with fail;refine HKD.out.mono ?_;rintro e w5 ⟨v5,rfl,hn5,hb5⟩;obtain⟨A5,cap5,rfl,_,_⟩:=hn5.reads;have HS5:=zh (HS4.out.later hb5);have HT5:=zh (HT4.out.later hb5 HT4.out.lt);have HN5:=zh (hn5.base HS4.out.draw.chg.size);clear hn5 hb5 HKD HS4 HT4 z0 z1 z2 z3 z4 hqz;have k0:=HS5.out.box.cell 0;have kf:=HS5.out.box.frozen 0;have kz:=HS5.out.box.lt;simp at k0;by_cases hc2:c2=0
      · have HTG:=zh (HDT.out hc2);have HSb:=zh ((HS5.out.put HN5.out HTG.out (by omega) hpw (by omega)).later (Below.new _ (.cells #[.slice A5 gs.length cap5] 26)));have HTb:=zh ((HT5.out.far (p:=⟨w.heap.size+1+1,0,none⟩) (show w.heap.size≠w.heap.size+1+1 by omega) (.slice A5 gs.length cap5)).alloc (.cells #[.slice A5 gs.length cap5] 26));subst hc2;go_wp2_with fail;go_roundw;case rel=>exact⟨k-1,_,gs,by go_num,by omega,HSb.out.mono (by omega),HTb.out⟩
        case measure=>simp[intOf];omega
      · have hb2:(c2==(0:Int))=false:=beq_eq_false_iff_ne.2 hc2;have HSb:=zh (HS5.out.later (Below.new _ (.cells #[.slice A5 gs.length cap5] 26)));have HTb:=zh (HT5.out.alloc (.cells #[.slice A5 gs.length cap5] 26));go_wp2_with fail;go_roundw;case rel=>exact⟨k-1,_,fs,by go_num,by omega,HSb.out.mono (by omega),HTb.out⟩
        case measure=>simp[intOf];omega
    · have hb2:(code==(0:Int))=false:=beq_eq_false_iff_ne.2 hc;go_wp2_with fail;go_roundw;case rel=>exact⟨k-1,_,fs,by go_num,by omega,HS4.out.mono (by omega),HT4.out⟩
      case measure=>simp[intOf];omega
  · obtain rfl:k=0:=by omega
    have hKb:KK≤68719477000:=by omega
    have hKe:KK=K+2+96:=by omega
    have HK3:=zh (zFU p KK 2 wr HS.out.draw.src (by omega) (by omega));clear hKK;go_wp2_with fail;refine HK3.out.mono ?_;rintro e w3 ⟨bb,rfl,hd3⟩;have HS3:=zh (HS.out.drawn hd3 (by omega) (by omega));clear hd3 HK3 t0 t1 t2 t3 q0 HT;have k0:=HS3.out.box.cell 0;have kf:=HS3.out.box.frozen 0;have kz:=HS3.out.box.lt;have r0:=HS3.out.res.cell 0;have rf:=HS3.out.res.frozen 0;have rz:=HS3.out.res.lt;simp at k0 r0;cases bb
    · go_wp2_with fail;refine bodyPost_ret (v:=.agg #[.slice A fs.length cap]) (by simp[results,Tryz.results120,go_sem,r0]) rfl ?_;exact⟨_,fs,rfl,HS3.out.own.setBlk HS3.out.res (by decide) (by decide),HS3.out.tree,(HS3.out.draw.set (show w.heap.size≤w.heap.size+1 by omega) hpw 0 _).mono (by omega)⟩
    · have HSL:=zh (HS3.out.later (Below.new w3 (.cells #[.string ⟨#[49]⟩] 9)));have HKP:Hid (Calls Tryz.prog 121 #[.agg #[.slice A fs.length cap],.string ⟨#[65]⟩,.slice (some ⟨w3.heap.size,0,none⟩) 1 1,.string ⟨#[118]⟩] (w3.alloc (.cells #[.string ⟨#[49]⟩] 9)) (zAj (zR0 fs ⟨#[65]⟩ [⟨#[49]⟩] ⟨#[118]⟩) (w3.alloc (.cells #[.string ⟨#[49]⟩] 9)))):=by obtain⟨A',c',e',hc',hN⟩:=HSL.out.own.reads;injection e' with e1 _ e3;subst e1 e3;exact zBB A fs.length cap fs ⟨#[65]⟩ (some ⟨w3.heap.size,0,none⟩) 1 1 [⟨#[49]⟩] ⟨#[118]⟩ _ hN hcap (xM HSL.out.tree) (xY rfl rfl rfl) (by omega) (zBm (by decide) (by decide) (by decide) (by decide))
      have HDT:Hid ((zR0 fs ⟨#[65]⟩ [⟨#[49]⟩] ⟨#[118]⟩).1=0→xA (zR0 fs ⟨#[65]⟩ [⟨#[49]⟩] ⟨#[118]⟩).2=true):=zAK;generalize zR0 fs ⟨#[65]⟩ [⟨#[49]⟩] ⟨#[118]⟩=DB at *;obtain⟨c2,gs⟩:=DB;go_wp2_with fail;refine HKP.out.mono ?_;rintro e w5 ⟨v5,rfl,hn5,hb5⟩;obtain⟨A5,cap5,rfl,_,_⟩:=hn5.reads;have HS5:=zh (HSL.out.later hb5);have HN5:=zh (hn5.base HSL.out.draw.chg.size);clear hn5 hb5 HKP HSL k0 kf kz r0 rf rz;have k0:=HS5.out.box.cell 0;have kf:=HS5.out.box.frozen 0;have kz:=HS5.out.box.lt;have r0:=HS5.out.res.cell 0;have rf:=HS5.out.res.frozen 0;have rz:=HS5.out.res.lt;simp at k0 r0;by_cases hc2:c2=0
      · have HTG:=zh (HDT.out hc2);have HSb:=zh (HS5.out.put HN5.out HTG.out (by omega) hpw (by omega));subst hc2;go_wp2_with fail;refine bodyPost_ret (v:=.agg #[.slice A5 gs.length cap5]) (by simp[results,Tryz.results120,go_sem,World.cell?_alloc_lt,rz,r0]) rfl ?_;exact⟨_,gs,rfl,(HSb.out.own.setBlk HSb.out.res (by decide) (by decide)).later (Below.new _ _),HTG.out,((HSb.out.draw.set (show w.heap.size≤w.heap.size+1 by omega) hpw 0 _).later (Below.new _ _)).mono (by omega)⟩
      · have hb2:(c2==(0:Int))=false:=beq_eq_false_iff_ne.2 hc2;go_wp2_with fail;refine bodyPost_ret (v:=.agg #[.slice A fs.length cap]) (by simp[results,Tryz.results120,go_sem,World.cell?_alloc_lt,rz,r0]) rfl ?_;exact⟨_,fs,rfl,(HS5.out.own.setBlk HS5.out.res (by decide) (by decide)).later (Below.new _ _),HS5.out.tree,((HS5.out.draw.set (show w.heap.size≤w.heap.size+1 by omega) hpw 0 _).later (Below.new _ _)).mono (by omega)⟩
end Go.Proofs.YtgmaamnofhmecaaGreatDoor
