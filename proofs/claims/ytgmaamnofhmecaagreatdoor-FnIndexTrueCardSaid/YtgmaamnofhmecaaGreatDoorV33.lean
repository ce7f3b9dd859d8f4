import Derived.Test.YtgmaamnofhmecaaGreatDoorV28
import Derived.Test.YtgmaamnofhmecaaGreatDoorV29
import Derived.Test.YtgmaamnofhmecaaGreatDoorV31
import Derived.Test.YtgmaamnofhmecaaGreatDoorV32
open Go.Lib renaming hid → zh
namespace Go.Proofs.YtgmaamnofhmecaaGreatDoor
open Go.RowKit
set_option linter.unusedVariables false
def OwnP (w:World) (base:Nat) (fs:List ChgD) (vs:List Value):Prop:=vs.length=fs.length∧(∀j,j<fs.length→Own.SubO w base (vs.getD j (.slice none 0 0)) (fs.getD j default).subs)∧vs.Pairwise Own.apart
theorem OwnP.of {w:World} {base t:Nat} {v:Value} {fs:List ChgD} {vs:List Value} (h:Own.OwnL uD w base t v fs vs):OwnP w base fs vs:=⟨h.len,h.subs,h.aprt⟩
theorem OwnP.later {w w':World} {base:Nat} {fs:List ChgD} {vs:List Value} (h:OwnP w base fs vs) (hb:Below w.heap.size w w'):OwnP w' base fs vs:=⟨h.1,fun j hj=>Own.own_later (h.2.1 j hj) hb,h.2.2⟩
theorem OwnP.base {w:World} {base base':Nat} {fs:List ChgD} {vs:List Value} (h:OwnP w base' fs vs) (hb:base≤base'):OwnP w base fs vs:=⟨h.1,fun j hj=>Own.own_base (h.2.1 j hj) hb,h.2.2⟩
theorem OwnP.app {w:World} {base:Nat} {fs gs:List ChgD} {vs us:List Value} (h:OwnP w base fs vs) (k:OwnP w base gs us) (hap:∀a∈vs,∀b∈us,Own.apart a b):OwnP w base (fs++gs) (vs++us):=by
 obtain⟨h1,h2,h3⟩:=h;obtain⟨k1,k2,k3⟩:=k;refine⟨by simp[h1,k1],fun j hj=>?_,List.pairwise_append.2 ⟨h3,k3,hap⟩⟩;rw[List.length_append]at hj;by_cases e:j<fs.length
 · rw[List.getD_eq_getElem?_getD,List.getElem?_append_left (by omega),←List.getD_eq_getElem?_getD,List.getD_eq_getElem?_getD (l:=fs++gs),List.getElem?_append_left e,←List.getD_eq_getElem?_getD];exact h2 j e
 · rw[List.getD_eq_getElem?_getD,List.getElem?_append_right (by omega),←List.getD_eq_getElem?_getD,List.getD_eq_getElem?_getD (l:=fs++gs),List.getElem?_append_right (by omega),←List.getD_eq_getElem?_getD,h1];exact k2 _ (by omega)
theorem zKM {w0 wa wb wc wd:World} {base:Nat} {v va vb v5:Value} {fs g2 g1:List ChgD} {vs ua ub:List Value} (h:Own.OwnL uD w0 base 88 v fs vs) (hw:base≤w0.heap.size) (hb:Below w0.heap.size w0 wa) (k:Own.OwnL uD wa w0.heap.size 88 va g2 ua)
 (hb2:Below wa.heap.size wa wb) (l:Own.OwnL uD wb wa.heap.size 88 vb g1 ub) (hb3:Below wb.heap.size wb wc) (hb4:Below wc.heap.size wc wd)
 (hrow:wd.ownsRow wc.heap.size 88 4 v5 (fs.length+(g2.length+(g1.length+0))) (Own.flat uD fs vs++(Own.flat uD g2 ua++(Own.flat uD g1 ub++[])))):ChgsO wd base v5 ((fs++g2)++g1):=by
 have s1:=hb.size;have s2:=hb2.size;have s3:=hb3.size;have p1:=(OwnP.of h).later (hb.later hb2);have p2:=((OwnP.of k).later hb2).base hw;have p3:=(OwnP.of l).base (show base≤wa.heap.size by omega);have hap:∀a∈vs,∀c∈ua,Own.apart a c:=fun a ha c hc=>by obtain⟨j,hj,rfl⟩:=Own.mem_getD hc;exact h.fresh (k.subs j (by rw[←k.len];exact hj)) (Nat.le_refl _) a ha
 have p4:=p1.app p2 hap
 have hap2:∀a∈vs++ua,∀c∈ub,Own.apart a c:=fun a ha c hc=>by
  obtain⟨j,hj,rfl⟩:=Own.mem_getD hc;rcases List.mem_append.1 ha with ha | ha
  · exact(h.later hb).fresh (l.subs j (by rw[←l.len];exact hj)) (Nat.le_refl _) a ha
  · exact k.fresh (l.subs j (by rw[←l.len];exact hj)) (Nat.le_refl _) a ha
 have p5:=(p4.app p3 hap2).later (hb3.later hb4);refine⟨(vs++ua)++ub,p5.1,?_,p5.2.1,p5.2.2⟩;rw[Own.flat_append uD _ _ _ _ p4.1,Own.flat_append uD _ _ _ _ h.len,List.length_append,List.length_append];have e:=Own.own_base hrow (show base≤wc.heap.size by omega);rw[List.append_nil]at e;rw[List.append_assoc,Nat.add_assoc];exact e
theorem zKP {wd wf wg:World} {base n0 cap0 cap2 cap1:Nat} {A0 A2 A1:Option Addr} {fs g2 g1:List ChgD} {vs ua ub:List Value} (h:Own.OwnL uD wd base 88 (.slice A0 n0 cap0) fs vs) (hn:fs.length=n0) (hp:0<n0) (hm:n0≤1000) (hw:base≤wd.heap.size)
 (hb:Below wd.heap.size wd wf) (k:Own.OwnL uD wf wd.heap.size 88 (.slice A2 g2.length cap2) g2 ua) (hm2:g2.length≤1000) (hb2:Below wf.heap.size wf wg) (l:Own.OwnL uD wg wf.heap.size 88 (.slice A1 g1.length cap1) g1 ub) (hm1:g1.length≤1000) :
 Calls Tryz.prog 54 #[.slice (some ⟨wg.heap.size,0,none⟩) 3 3] (wg.alloc (.cells #[.slice A0 n0 cap0,.slice A2 g2.length cap2,.slice A1 g1.length cap1] 34)) fun e w'=>∃v,e=.returned v∧ChgsO w' base v ((fs++g2)++g1)∧Below (wg.alloc (.cells #[.slice A0 n0 cap0,.slice A2 g2.length cap2,.slice A1 g1.length cap1] 34)).heap.size (wg.alloc (.cells #[.slice A0 n0 cap0,.slice A2 g2.length cap2,.slice A1 g1.length cap1] 34)) w':=by
 subst hn;have e:=Below.new wg (.cells #[.slice A0 fs.length cap0,.slice A2 g2.length cap2,.slice A1 g1.length cap1] 34);have s1:=hb.size;have s2:=hb2.size;have s3:=e.size;obtain⟨ps,hps⟩:∃ps:List PartD,ps=[⟨A0,fs.length,cap0,Own.flat uD fs vs⟩,⟨A2,g2.length,cap2,Own.flat uD g2 ua⟩,⟨A1,g1.length,cap1,Own.flat uD g1 ub⟩]:=⟨_,rfl⟩
 have hcell:∀j,j<3→(wg.alloc (.cells #[.slice A0 fs.length cap0,.slice A2 g2.length cap2,.slice A1 g1.length cap1] 34)).cell? ⟨wg.heap.size,0+j,none⟩=some (.slice (ps.getD j default).A (ps.getD j default).n (ps.getD j default).c):=fun j hj=>by
  have h:=zV0 wg #[.slice A0 fs.length cap0,.slice A2 g2.length cap2,.slice A1 g1.length cap1] 34;subst hps
  match j,hj with
  | 0,_=>exact h 0 _ rfl
  | 1,_=>exact h 1 _ rfl
  | 2,_=>exact h 2 _ rfl
 have hrd:∀p∈ps,Reads (wg.alloc (.cells #[.slice A0 fs.length cap0,.slice A2 g2.length cap2,.slice A1 g1.length cap1] 34)) (wg.alloc (.cells #[.slice A0 fs.length cap0,.slice A2 g2.length cap2,.slice A1 g1.length cap1] 34)).heap.size 4 p.A p.n p.xs∧∀u∈p.xs,u.oneCell'=true:=fun p hp=>by
  subst hps;simp only[List.mem_cons,List.not_mem_nil,or_false]at hp;rcases hp with rfl | rfl | rfl
  · exact⟨((Reads.of_own h.row).below ((hb.later hb2).later e)).more (by omega),vL h⟩
  · exact⟨((Reads.of_own k.row).below (hb2.later e)).more (by omega),vL k⟩
  · exact⟨((Reads.of_own l.row).below e).more s3,vL l⟩
 have hsz:∀p∈ps,p.n≤1000:=fun p hp=>by
  subst hps;simp only[List.mem_cons,List.not_mem_nil,or_false]at hp;rcases hp with rfl | rfl | rfl
  · exact hm
  · exact hm2
  · exact hm1
 have hsum:xU ps=fs.length+(g2.length+(g1.length+0)):=by subst hps;rfl
 have hall:zCM ps=Own.flat uD fs vs++(Own.flat uD g2 ua++(Own.flat uD g1 ub++[])):=by subst hps;rfl
 have hC:=zII wg.heap.size 0 3 3 ps _ (by subst hps;rfl) (by simp) (by decide) hsz (by rw[hsum];omega) hcell hrd;refine hC.mono ?_;rintro e' w' ⟨v,rfl,ho,hbw⟩;rw[hsum,hall]at ho;exact⟨v,rfl,zKM h hw hb k hb2 l e hbw ho,hbw⟩
set_option maxRecDepth 100000 in
set_option maxHeartbeats 16000000 in
theorem zFf (A:Option Addr) (n c:Nat) (b0 b1 b2 b3 r0:Value) (fs:List NodeD) (b:TableD) (r:List ByteArray) (w:World) (htab:vV w) (ht:Nodes w w.heap.size A n fs) (hb:TableR w w.heap.size b0 b1 b2 b3 b) (h:RowR w w.heap.size r0 r) (hts:wB fs) (hbs:b.small) (hsm:wL r) :
 Calls Tryz.prog 12 #[.agg #[.slice A n c],.agg #[b0,b1,b2,b3],.agg #[r0]] w (zBD (zAH fs b r) w):=by
 obtain⟨i0,hi0,hz0,hz1,hz2⟩:=info_parts uT;have HK1:=zh (fun W (hW:Below w.heap.size w W)=>zEP A n c fs W (ht.later hW) (zH0 htab hW) hts);have HK2:=zh (fun W (hW:Below w.heap.size w W)=>zKc b0 b1 b2 b3 r0 b r W (hb.later hW) (h.later hW) hbs hsm)
 have HKEY:Hid ((r.getD 0 ByteArray.empty).size≤1048576):=by
  by_cases hp:0<r.length
  · exact hsm.2 _ (vK r 0 hp)
  · have:r=[]:=List.eq_nil_of_length_eq_zero (by omega);subst this;unfold Hid;decide
 have HK4:Hid (xA fs=true→zF0 b=true→∀W (hW:Below w.heap.size w W),Calls Tryz.prog 51 #[.agg #[.slice A n c],.agg #[b0,b1,b2,b3],.string (r.getD 0 ByteArray.empty)] W (zBN (uF b.cols (yA b.glob fs) (r.getD 0 ByteArray.empty)) W)):=fun h1 h2 W hW=>by obtain⟨f1,f2,f3,f4,f5⟩:=vA h2;exact zJy A n c b0 b1 b2 b3 fs b _ W (ht.later hW) (hb.later hW) hts h1 (by omega) f3 HKEY.out
 have HPOS:Hid (zF0 b=true→vC b.cols r=true→0<r.length):=fun h1 h2=>by have f2:=(vA h1).2.1;unfold vC at h2;simp only[Bool.and_eq_true,decide_eq_true_eq]at h2;omega
 have HK5:Hid (0<r.length→∀W (hW:Below w.heap.size w W),Calls Tryz.prog 52 #[.agg #[b0,b1,b2,b3],.int .i64 1,.agg #[r0]] W (zDT (xT b.glob r) W)):=fun hp W hW=>zGC b0 b1 b2 b3 r0 b r 1 W (hb.later hW) (h.later hW) hsm hp;have HK6:Hid (zF0 b=true→∀q0 q kind,vC b.cols q=true→∀c∈b.idx,∀W (hW:Below w.heap.size w W),RowR W W.heap.size q0 q→Calls Tryz.prog 55 #[.agg #[b0,b1,b2,b3],.int .i64 kind,.agg #[q0],.string c] W (xN (zI0 kind b.glob b.cols q c) W)):=fun h1 q0 q kind h2 c hc W hW hq=>by obtain⟨f1,f2,f3,f4,f5⟩:=vA h1;obtain⟨g1,g2⟩:=zCW h2;have:=f5 c hc;have:=(xJ b.cols c).2;exact zBX b0 b1 b2 b3 q0 b q c kind W (hb.later hW) hq hbs (by omega) (by omega)
 have HK7:Hid (∀q0 q c (j:Nat),wA b.cols c=j→j<q.length→∀W (hW:Below w.heap.size w W),RowR W W.heap.size q0 q→Calls Tryz.prog 53 #[.agg #[b0,b1,b2,b3],.agg #[q0],.string c] W fun e w'=>e=.returned (.string (q.getD j ByteArray.empty))∧Below W.heap.size W w'):=fun q0 q c j h1 h2 W hW hq =>
  zHu b0 b1 b2 b3 q0 b q c j W (hb.later hW) hq hbs h1 h2
 have HRL:Hid (zF0 b=true→∀q,vC b.cols q=true→∀c∈b.idx,∃j:Nat,wA b.cols c=(j:Int)∧j<q.length):=fun h1 q h2 c hc=>by obtain⟨f1,f2,f3,f4,f5⟩:=vA h1;obtain⟨g1,g2⟩:=zCW h2;have:=f5 c hc;have:=(xJ b.cols c).2;exact⟨(wA b.cols c).toNat,by omega,by omega⟩
 have HTF:Hid (zF0 b=true→b.idx.length≤5∧b.cols.length≤5):=fun h1=>by obtain⟨f1,f2,f3,f4,f5⟩:=vA h1;exact⟨by omega,f3⟩
 have HOK:Hid ((uF b.cols (yA b.glob fs) (r.getD 0 ByteArray.empty)).1=0→vC b.cols (uF b.cols (yA b.glob fs) (r.getD 0 ByteArray.empty)).2=true):=fun h=>zCV h;have HRR:Hid (∀W,Below w.heap.size w W→RowR W W.heap.size r0 r):=fun W hW=>h.later hW
 have HR:Hid (zAH fs b r=if (xA fs&&(zF0 b&&vC b.cols r))=true then
  (if (uF b.cols (yA b.glob fs) (r.getD 0 ByteArray.empty)).1=0 then (0,xT b.glob r::zQ0 b (uF b.cols (yA b.glob fs) (r.getD 0 ByteArray.empty)).2 r) else ((uF b.cols (yA b.glob fs) (r.getD 0 ByteArray.empty)).1,[])) else (1,[])):=rfl
 have HUL:=zh (fun old=>zDX b.glob b.cols old r);obtain⟨rfl,rfl,⟨A2,n2,p2,rfl,s2,k2⟩,⟨A3,n3,p3,rfl,s3,k3⟩⟩:=hb;obtain⟨A4,n4,p4,rfl,hrs,k4⟩:=h;have HRS:=zh hrs;have HLL:=zh hrs.1;have HS3:=zh s3;have HL3:=zh s3.1;have HUE:Hid (∀old,zQ0 b old r=b.idx.flatMap (zCj b.glob b.cols old r)):=fun old=>rfl;have HUC:Hid (∀old c (j:Nat),wA b.cols c=(j:Int)→zCj b.glob b.cols old r c=if old.getD j ByteArray.empty=r.getD j ByteArray.empty then [] else zI0 2 b.glob b.cols old c++zI0 1 b.glob b.cols r c):=fun old c j hj=>by unfold zCj;rw[zAU hj,zAU hj]
 have HIL:Hid (∀kind q c,(zI0 kind b.glob b.cols q c).length≤1):=fun kind q c=>zAz kind b.glob b.cols q c;clear s2 s3 ht hts hbs hrs hsm htab;generalize zAH fs b r=RR at *;generalize xT b.glob r=D at *;generalize uF b.cols (yA b.glob fs) (r.getD 0 ByteArray.empty)=rt at *;obtain⟨rc,old⟩:=rt;dsimp only at HOK HR;generalize zQ0 b=US at *;generalize zCj b.glob b.cols=UC at *;generalize xA fs=xt at *;generalize zF0 b=xb at *;generalize hRB:vC b.cols=RB at *;clear hRB;generalize hID:(fun kind=>zI0 kind b.glob b.cols)=IC at *;have e1:∀kind q c,zI0 kind b.glob b.cols q c=IC kind q c:=fun kind q c=>by rw[←hID]
 simp only[e1]at HK6 HUC HIL;clear e1 hID;generalize b.name=nm at *;generalize b.glob=gl at *;generalize b.cols=cols at *;generalize b.idx=ids at *;obtain⟨WB,hWB⟩:∃WB,WB=((w.alloc (.cells #[.slice A n c] 26)).alloc (.cells #[.string nm,.string gl,.slice A2 n2 p2,.slice A3 n3 p3] 29)).alloc (.cells #[.slice A4 n4 p4] 31):=⟨_,rfl⟩;have HX0:Hid (Blk WB w.heap.size 26 #[.slice A n c]):=by subst hWB;exact wN _ _ _ _
 have HX1:Hid (Blk WB (w.heap.size+1) 29 #[.string nm,.string gl,.slice A2 n2 p2,.slice A3 n3 p3]):=by subst hWB;exact wK _ _ _ _
 have HX2:Hid (Blk WB (w.heap.size+1+1) 31 #[.slice A4 n4 p4]):=by subst hWB;exact wJ _ _ _ _
 have HBB:Hid (Below w.heap.size w WB):=by subst hWB;exact zL0 w _ _ _
 have HS1:Hid (∀W',Below WB.heap.size WB W'→(W'.cell? ⟨w.heap.size,0,none⟩=some (.slice A n c)∧W'.cell? ⟨w.heap.size+1,0,none⟩=some (.string nm)∧W'.cell? ⟨w.heap.size+1,1,none⟩=some (.string gl)∧W'.cell? ⟨w.heap.size+1,2,none⟩=some (.slice A2 n2 p2)∧W'.cell? ⟨w.heap.size+1,3,none⟩=some (.slice A3 n3 p3)∧W'.cell? ⟨w.heap.size+1+1,0,none⟩=some (.slice A4 n4 p4))):=fun W' hW=>⟨(HX0.out.later hW HX0.out.lt).at 0 rfl,(HX1.out.later hW HX1.out.lt).at 0 rfl,(HX1.out.later hW HX1.out.lt).at 1 rfl,(HX1.out.later hW HX1.out.lt).at 2 rfl,(HX1.out.later hW HX1.out.lt).at 3 rfl,(HX2.out.later hW HX2.out.lt).at 0 rfl⟩;go_enter Tryz.func12,Tryz.ntmps12;go_wp2_with fail;rw[←hWB];clear hWB;refine(HK1.out _ HBB.out).mono ?_;rintro e w1 ⟨rfl,hb1⟩;have HB1:=zh hb1;clear hb1;cases xt
 · have HE:Hid (RR=(1,[])):=by unfold Hid;rw[HR.out];rfl
   go_wp2_with fail;refine bodyPost_ret (v:=.tuple #[.slice none 0 0,.int .i64 _]) (by simp[results,Tryz.results12,go_sem];try first | exact rfl | exact⟨rfl,rfl⟩) rfl ?_;exact⟨_,by rw[HE.out],by rw[HE.out];exact zAD _ _,HBB.out.later HB1.out⟩
 obtain⟨x0,x1,x2,x3,x4,x5⟩:=HS1.out _ HB1.out;go_wp2_with fail;refine(HK2.out _ (HBB.out.later HB1.out)).mono ?_;rintro e w3 ⟨rfl,hb3⟩;have HB3:=zh (HB1.out.later hb3);clear hb3 x0 x1 x2 x3 x4 x5;cases hxr:(xb&&RB r)
 · have HE:Hid (RR=(1,[])):=by unfold Hid;rw[HR.out,hxr];rfl
   clear hxr;go_wp2_with fail;refine bodyPost_ret (v:=.tuple #[.slice none 0 0,.int .i64 _]) (by simp[results,Tryz.results12,go_sem];try first | exact rfl | exact⟨rfl,rfl⟩) rfl ?_;exact⟨_,by rw[HE.out],by rw[HE.out];exact zAD _ _,HBB.out.later HB3.out⟩
 have hx1:xb=true∧RB r=true:=by simpa using hxr
 obtain⟨hxb,hxq⟩:=hx1;subst hxb;have HRB:=zh hxq;clear hxr hxq;obtain⟨x0,x1,x2,x3,x4,x5⟩:=HS1.out _ HB3.out;have hpos:=HPOS.out (by first | rfl | trivial) HRB.out;have HKS:=zh (HK5.out hpos);have HKI:=zh (HK6.out (by first | rfl | trivial));have HKR:=zh (HRL.out (by first | rfl | trivial));have HTT:=zh (HTF.out (by first | rfl | trivial));have HRE:Hid (RR=if rc=0 then (0,D::US old r) else (rc,[])):=by unfold Hid;rw[HR.out,HRB.out];rfl
 have HKK:=zh (HK4.out (by first | rfl | trivial) (by first | rfl | trivial));clear HK1 HK2 HK4 HK5 HK6 HRL HTF HR HPOS;rw[HLL.out]at hpos;obtain⟨rb,ro,rfl,hrb,hrc⟩:=HRS.out.2 hpos;have hr0:=((HBB.out.later HB3.out).cell (p:=⟨rb,ro,none⟩) hrb).trans (hrc 0 hpos);clear hrc;generalize r.getD 0 ByteArray.empty=key at *;have HQ0:Hid (Blk (w3.alloc (.cells #[.slice none 0 0] 31)) w3.heap.size 31 #[.slice none 0 0]):=wF rfl;have HBw:=zh (HBB.out.later HB3.out);have HBn:=zh (HBw.out.later (Below.new w3 (.cells #[.slice none 0 0] 31)));have HSW:Hid (∀W',Below w3.heap.size w3 W'→(W'.cell? ⟨w.heap.size,0,none⟩=some (.slice A n c)∧W'.cell? ⟨w.heap.size+1,0,none⟩=some (.string nm)∧W'.cell? ⟨w.heap.size+1,1,none⟩=some (.string gl)∧W'.cell? ⟨w.heap.size+1,2,none⟩=some (.slice A2 n2 p2)∧W'.cell? ⟨w.heap.size+1,3,none⟩=some (.slice A3 n3 p3)∧W'.cell? ⟨w.heap.size+1+1,0,none⟩=some (.slice (some ⟨rb,ro,none⟩) n4 p4))∧W'.cell? ⟨rb,ro,none⟩=some (.string key)):=fun W' hW=>⟨HS1.out _ (HB3.out.later hW),(hW.cell (p:=⟨rb,ro,none⟩) (by have:=HBw.out.size;show rb<_;omega)).trans hr0⟩;clear x0 x1 x2 x3 x4 x5 hr0;obtain⟨⟨x0,x1,x2,x3,x4,x5⟩,hr0⟩:=HSW.out _ (Below.refl _ _);go_wp2_with fail;apply zLQ (fun (W5:World) (qb:Nat) (AC:Option Addr) (cc:Nat)=>Hid (Blk W5 qb 31 #[.slice AC old.length cc])∧Hid (Strs W5 W5.heap.size AC old.length old)∧Hid (Below w3.heap.size w3 W5)∧old.length≤cc)
 case m =>
  intro HALL
  go_region_held3 (fun W'=>(W'.cell? ⟨w.heap.size,0,none⟩=some (.slice A n c)∧W'.cell? ⟨w.heap.size+1,0,none⟩=some (.string nm)∧W'.cell? ⟨w.heap.size+1,1,none⟩=some (.string gl)∧W'.cell? ⟨w.heap.size+1,2,none⟩=some (.slice A2 n2 p2)∧W'.cell? ⟨w.heap.size+1,3,none⟩=some (.slice A3 n3 p3)∧W'.cell? ⟨w.heap.size+1+1,0,none⟩=some (.slice (some ⟨rb,ro,none⟩) n4 p4))∧W'.cell? ⟨rb,ro,none⟩=some (.string key))
   (first | exact HSW.out _ (Below.refl _ _).drew | exact HSW.out _ (Below.new _ _).drew | exact HSW.out _ HBY.out | exact HSW.out _ (HBY.out.later (Below.new _ _)) | exact HSW.out _ (HBY.out.setCell (Nat.le_refl _) _))
   (first
     | (go_at_call 51;refine(HKK.out _ HBw.out.drew).mono ?_;rintro e w4 ⟨v',rfl,hsub,hb4'⟩;obtain⟨AC,cc,rfl,hcc,hmc,hac⟩:=Own.own_slice hsub;have HBX:=zh (zD0 hb4');have HBY:=zh HBX.out;have HSUB:=zh hsub;clear hsub hb4' hmc hac)
     | (go_at_call 51;refine(HKK.out _ HBn.out.drew).mono ?_;rintro e w4 ⟨v',rfl,hsub,hb4'⟩;obtain⟨AC,cc,rfl,hcc,hmc,hac⟩:=Own.own_slice hsub;have HBX:=zh (zD0 hb4');have HBY:=zh ((Below.new w3 (.cells #[.slice none 0 0] 31)).later HBX.out);have HQ:=zh (Blk.later HQ0.out HBX.out (by simp));have q0:=(Blk.cell HQ.out 0);have qf:=Blk.frozen HQ.out 0;have qz:=Blk.lt HQ.out;have HSUB:=zh hsub;simp at q0;clear hsub hb4' hmc hac))
  all_goals
   have hw3:=HBw.out.size;have hwb:=HBB.out.size
   first
     | (obtain⟨W5,hW5⟩:∃W5,W5=w4.setCell ⟨w3.heap.size,0,none⟩ (.slice AC old.length cc):=⟨_,rfl⟩
        have HQ5:Hid (Blk W5 w3.heap.size 31 #[(.slice AC old.length cc)]):=by subst hW5;unfold Hid;have h:=HQ.out.set_ 0 (.slice AC old.length cc);simpa using h
        have HST:Hid (Strs W5 W5.heap.size AC old.length old):=by obtain⟨A',c',e,_,hs⟩:=Own.SubO.strs (Own.sub_far (i:=0) (u:=(.slice AC old.length cc)) HSUB.out (show w3.heap.size<(w3.alloc (.cells #[.slice none 0 0] 31)).heap.size by simp));injection e with e1 e2 e3;subst e1 e3 hW5;exact hs
        have HBZ:Hid (Below w3.heap.size w3 W5):=by subst hW5;exact HBY.out.setCell (p:=⟨w3.heap.size,0,none⟩) (Nat.le_refl _) (.slice AC old.length cc)
        rw[←hW5];clear hW5 q0 qf qz HQ
        generalize w3.heap.size=qb at HQ5 ⊢)
     | (obtain⟨W5,hW5⟩:∃W5,W5=w4.alloc (.cells #[(.slice AC old.length cc)] 31):=⟨_,rfl⟩
        have HQ5:Hid (Blk W5 w4.heap.size 31 #[(.slice AC old.length cc)]):=by subst hW5;exact wF rfl
        have HST:Hid (Strs W5 W5.heap.size AC old.length old):=by obtain⟨A',c',e,_,hs⟩:=Own.SubO.strs (Own.own_later HSUB.out (Below.new w4 (.cells #[(.slice AC old.length cc)] 31)));injection e with e1 e2 e3;subst e1 e3 hW5;exact hs
        have HBZ:Hid (Below w3.heap.size w3 W5):=by subst hW5;exact HBY.out.later (Below.new _ _)
        rw[←hW5];clear hW5
        generalize w4.heap.size=qb at HQ5 ⊢)
   exact HALL _ _ _ _ ⟨HQ5,HST,HBZ,hcc⟩
 case t =>
  intro W5 qb AC cc HALL;obtain⟨HQ5,HST,HBZ,hcc⟩:=HALL;have hw3:=HBw.out.size;have hwb:=HBB.out.size;clear HQ0 HBn;have HB5:=zh (HB3.out.later HBZ.out);have HB5w:=zh (HBB.out.later HB5.out);clear HBZ HSW hr0 x0 x1 x2 x3 x4 x5;by_cases h0:rc=0
  case neg =>
   have HE:Hid (RR=(rc,[])):=by unfold Hid;rw[HRE.out,if_neg h0]
   have hc2:(rc==(0:Int))=false:=beq_eq_false_iff_ne.2 h0;go_wp2_with fail;refine bodyPost_ret (v:=.tuple #[.slice none 0 0,.int .i64 rc]) (by simp[results,Tryz.results12,go_sem];try first | exact rfl | exact⟨rfl,rfl⟩) rfl ?_;exact⟨_,by rw[HE.out],by rw[HE.out];exact zAD _ _,HB5w.out⟩
  subst h0;have HOLD:=zh (HOK.out rfl);have HE:Hid (RR=(0,D::ids.flatMap (UC old r))):=by unfold Hid;rw[HRE.out,if_pos rfl,HUE.out]
  have HOR:Hid (∀W,Below W5.heap.size W5 W→RowR W W.heap.size (.slice AC old.length cc) old):=fun W hW=>⟨AC,_,cc,rfl,HST.out.later hW,hcc⟩;have HRR5:Hid (∀W,Below W5.heap.size W5 W→RowR W W.heap.size (.slice (some ⟨rb,ro,none⟩) n4 p4) r):=fun W hW=>HRR.out W (HB5w.out.later hW);have HS5:Hid (∀W',Below W5.heap.size W5 W'→(W'.cell? ⟨w.heap.size,0,none⟩=some (.slice A n c)∧W'.cell? ⟨w.heap.size+1,0,none⟩=some (.string nm)∧W'.cell? ⟨w.heap.size+1,1,none⟩=some (.string gl)∧W'.cell? ⟨w.heap.size+1,2,none⟩=some (.slice A2 n2 p2)∧W'.cell? ⟨w.heap.size+1,3,none⟩=some (.slice A3 n3 p3)∧W'.cell? ⟨w.heap.size+1+1,0,none⟩=some (.slice (some ⟨rb,ro,none⟩) n4 p4))∧W'.cell? ⟨qb,0,none⟩=some (.slice AC old.length cc)):=fun W' hW=>⟨HS1.out _ (HB5.out.later hW),(HQ5.out.later hW HQ5.out.lt).at 0 rfl⟩;obtain⟨⟨x0,x1,x2,x3,x4,x5⟩,x6⟩:=HS5.out _ (Below.refl _ _);go_wp2_with fail;refine(HKS.out _ HB5w.out).mono ?_;rintro e w6 ⟨v1,rfl,hsub1,hb6⟩;obtain⟨A1,cap1,rfl,_,_,_⟩:=Own.own_slice hsub1;have HO1:=zh (zX0 hsub1 hb6.size);have HB6:=zh hb6;have hw6:=hb6.size;clear hb6 hsub1 x0 x1 x2 x3 x4 x5 x6 HKS HKK HRE HUE;obtain⟨W6,hW6⟩:∃W6,W6=w6.alloc (.cells #[.int .i64 D.kind,.string D.name,.slice A1 D.subs.length cap1,.string D.val] 88):=⟨_,rfl⟩;have HB6n:Hid (Below W5.heap.size W5 (w6.alloc (.cells #[.int .i64 D.kind,.string D.name,.slice A1 D.subs.length cap1,.string D.val] 88))):=HB6.out.later (Below.new _ _);obtain⟨⟨x0,x1,x2,x3,x4,x5⟩,x6⟩:=HS5.out _ HB6n.out;clear hW6;go_wp2_with fail;go_loopw [10,42] (fun v i wr=>∃(k:Nat),k≤n3∧i=.int .i64 k∧Hid (ChgsO wr W5.heap.size v (D::(ids.take k).flatMap (UC old r)))∧Below W5.heap.size W5 wr) (fun _ i _=>n3-(intOf i).toNat);case atStart=>exact⟨0,Nat.zero_le _,rfl,⟨_,HO1.out⟩,HB6n.out⟩
  case round =>
   obtain⟨k,hk,rfl,hown,hb⟩:=hrel;have HB:=zh hb;have HBw:=zh (HB5w.out.later hb);have hwr:=hb.size;clear x0 x1 x2 x3 x4 x5 x6;obtain⟨⟨x0,x1,x2,x3,x4,x5⟩,x6⟩:=HS5.out _ hb;clear hb HO1 HB6;obtain⟨vs,hown⟩:=hown;have HO:=zh hown;obtain⟨AO,capo,eo,hco,_,_⟩:=Own.own_slice hown.row;subst eo;clear hown;by_cases hlt:k<n3
   · obtain⟨ib,io,rfl,hib0,hic0⟩:=HS3.out.2 (by omega);have hik:=(HBw.out.cell (p:=⟨ib,io+k,none⟩) hib0).trans (hic0 k hlt);have hib:ib<wr.heap.size:=by have:=HBw.out.size;omega
     have hl:k<ids.length:=by rw[HL3.out];exact hlt
     have hmem:=vK ids k hl;have HKo:=zh (HKI.out (.slice AC old.length cc) old 2 HOLD.out _ hmem);have HKr:=zh (HKI.out (.slice (some ⟨rb,ro,none⟩) n4 p4) r 1 HRB.out _ hmem);obtain⟨j,hj,hjo⟩:=HKR.out old HOLD.out _ hmem;obtain⟨j',hj',hjr⟩:=HKR.out r HRB.out _ hmem;have hjj:j'=j:=by rw[hj]at hj';omega
     subst hjj;have HCo:=zh (HK7.out (.slice AC old.length cc) old _ j' hj hjo);have HCr:=zh (HK7.out (.slice (some ⟨rb,ro,none⟩) n4 p4) r _ j' hj hjr);have HSTP:=zh (vY (UC old r) ids k hl);have HUJ:=zh (HUC.out old _ j' hj);have HUJL:=zh (HUL.out old (ids.getD k ByteArray.empty));have HI2:=zh (HIL.out 2 old (ids.getD k ByteArray.empty));have HI1:=zh (HIL.out 1 r (ids.getD k ByteArray.empty));have HTL:Hid ((D::(ids.take k).flatMap (UC old r)).length≤1000∧0<(D::(ids.take k).flatMap (UC old r)).length):=by unfold Hid;have h1:=uY (UC old r) (HUL.out old) (ids.take k);rw[List.length_take]at h1;rw[List.length_cons];have:=HTT.out.1;omega
     have hkI:(k:Int)<(n3:Int):=by omega
     have HSX:Hid (∀W',Below W5.heap.size W5 W'→(W'.cell? ⟨w.heap.size,0,none⟩=some (.slice A n c)∧W'.cell? ⟨w.heap.size+1,0,none⟩=some (.string nm)∧W'.cell? ⟨w.heap.size+1,1,none⟩=some (.string gl)∧W'.cell? ⟨w.heap.size+1,2,none⟩=some (.slice A2 n2 p2)∧W'.cell? ⟨w.heap.size+1,3,none⟩=some (.slice (some ⟨ib,io,none⟩) n3 p3)∧W'.cell? ⟨w.heap.size+1+1,0,none⟩=some (.slice (some ⟨rb,ro,none⟩) n4 p4))∧W'.cell? ⟨qb,0,none⟩=some (.slice AC old.length cc)):=fun W' hW=>HS5.out _ hW;clear hic0 hl hj hj' hmem;generalize ids.getD k ByteArray.empty=col at *;generalize hg2:IC 2 old col=g2 at *;generalize hg1:IC 1 r col=g1 at *;generalize hgu:UC old r col=gu at *;clear hg2 hg1 hgu;generalize old.getD j' ByteArray.empty=vo at *;generalize r.getD j' ByteArray.empty=vr at *;generalize hfs:D::(ids.take k).flatMap (UC old r)=fs0 at *;have HFS:=zh hfs;clear hfs;have hN:=HTL.out;generalize hNN:fs0.length=N at *;have HN:=zh hNN;clear hNN;have hn35:n3≤5:=by rw[←HL3.out];exact HTT.out.1
     go_wp2_with fail
     go_region_held3 (fun W'=>(W'.cell? ⟨w.heap.size,0,none⟩=some (.slice A n c)∧W'.cell? ⟨w.heap.size+1,0,none⟩=some (.string nm)∧W'.cell? ⟨w.heap.size+1,1,none⟩=some (.string gl)∧W'.cell? ⟨w.heap.size+1,2,none⟩=some (.slice A2 n2 p2)∧W'.cell? ⟨w.heap.size+1,3,none⟩=some (.slice (some ⟨ib,io,none⟩) n3 p3)∧W'.cell? ⟨w.heap.size+1+1,0,none⟩=some (.slice (some ⟨rb,ro,none⟩) n4 p4))∧W'.cell? ⟨qb,0,none⟩=some (.slice AC old.length cc))
      (first | exact HSX.out _ HBd.out | exact HSX.out _ HBc.out | exact HSX.out _ HB.out.drew)
      (first
        | (go_at_call 53;with_reducible refine(HCr.out wc (by exact HB5w.out.later HBc.out) (by exact HRR5.out _ HBc.out)).mono ?_;rintro e wd ⟨rfl,hbd⟩;have HBd:=zh (HBc.out.later hbd);have HBrd:=zh (HBcc.out.later hbd);clear hbd)
        | (go_at_call 53;with_reducible refine(HCo.out wr.drew (by exact HBw.out.drew) (by exact HOR.out _ HB.out.drew)).mono ?_;rintro e wc ⟨rfl,hbc'⟩;have hbc:=zD0 hbc';have HBc:=zh (HB.out.later hbc);have HBcc:=zh hbc;clear hbc hbc'))
     have HBdw:=zh (HB5w.out.later HBd.out);have HOd:Hid (Own.OwnL uD wd W5.heap.size 88 (.slice AO N capo) fs0 vs):=HO.out.later HBrd.out;have hwd:=HBd.out.size;clear x0 x1 x2 x3 x4 x5 x6 hik HB HBw HO HBc HBcc HBrd HCo HCr;by_cases hv:vo=vr
     · subst hv;have HCE:Hid (ChgsO wd W5.heap.size (.slice AO N capo) (D::(ids.take (k+1)).flatMap (UC old r))):=by unfold Hid;rw[HSTP.out,HUJ.out,if_pos rfl,List.append_nil,HFS.out];exact⟨vs,HOd.out⟩
       rw[show(!vo.toList==vo.toList)=false by simp];go_wp2_with fail;go_roundw;case rel=>exact⟨k+1,by omega,by go_num,HCE.out,HBd.out⟩
       case measure=>simp[intOf];omega
     · have hbe:=vE hv;have hbn:=wY hv;have HUG:Hid (gu=g2++g1):=by unfold Hid;rw[HUJ.out,if_neg hv]
       have hI2:=HI2.out;have hI1:=HI1.out;clear hv HUJ;obtain⟨⟨x0,x1,x2,x3,x4,x5⟩,x6⟩:=HSX.out _ HBd.out;have HONEo:=zh (vL HOd.out);have HRDo:Hid (Reads wd wd.heap.size 4 AO N (Own.flat uD fs0 vs)):=by have h:=HOd.out.row;rw[HN.out]at h;exact Reads.of_own h
       rw[hbn];go_wp2_with fail
       go_region_held3 (fun W'=>(W'.cell? ⟨w.heap.size,0,none⟩=some (.slice A n c)∧W'.cell? ⟨w.heap.size+1,0,none⟩=some (.string nm)∧W'.cell? ⟨w.heap.size+1,1,none⟩=some (.string gl)∧W'.cell? ⟨w.heap.size+1,2,none⟩=some (.slice A2 n2 p2)∧W'.cell? ⟨w.heap.size+1,3,none⟩=some (.slice (some ⟨ib,io,none⟩) n3 p3)∧W'.cell? ⟨w.heap.size+1+1,0,none⟩=some (.slice (some ⟨rb,ro,none⟩) n4 p4))∧W'.cell? ⟨qb,0,none⟩=some (.slice AC old.length cc))
        (first | exact HSX.out _ HBh.out | exact HSX.out _ (HBg.out.later (Below.new _ _)) | exact HSX.out _ HBg.out | exact HSX.out _ HBf.out | exact HSX.out _ HBd.out.drew)
        (first
          | (go_at_call 54
             refine(zKP HOd.out HN.out hN.2 hN.1 hwd HBa.out HOa.out (by omega) HBb.out HOb.out (by omega)).mono ?_;rintro e wh ⟨vh,rfl,hch,hbh⟩;have HBh:=zh ((HBg.out.later (Below.new wg (.cells #[.slice AO N capo,.slice Aa g2.length capa,.slice Ab g1.length capb] 34))).later hbh);have HCh:=zh hch
             clear hch hbh)
          | (go_at_call 55
             with_reducible refine(HKr.out wf (by exact HB5w.out.later HBf.out) (by exact HRR5.out _ HBf.out)).mono ?_
             rintro e wg ⟨vb,rfl,⟨ub,hob⟩,hbb⟩;obtain⟨Ab,capb,rfl,_,_,_⟩:=Own.own_slice hob.row;have HBb:=zh hbb;have HBg:=zh (HBf.out.later hbb);have HOb:Hid (Own.OwnL uD wg wf.heap.size 88 (.slice Ab g1.length capb) g1 ub):=hob;have HRDb:=zh (Reads.of_own hob.row);have HONEb:=zh (vL hob)
             clear hbb hob)
          | (go_at_call 55
             with_reducible refine(HKo.out wd.drew (by exact HBdw.out.drew) (by exact HOR.out _ HBd.out.drew)).mono ?_
             rintro e wf ⟨va,rfl,⟨ua,hoa⟩,hba'⟩;have hba:=zD0 hba';obtain⟨Aa,capa,rfl,_,_,_⟩:=Own.own_slice hoa.row;have HBa:Hid (Below wd.heap.size wd wf):=hba;have HBf:=zh (HBd.out.later hba);have HOa:Hid (Own.OwnL uD wf wd.heap.size 88 (.slice Aa g2.length capa) g2 ua):=hoa;have HRDa:=zh (Reads.of_own hoa.row);have HONEa:=zh (vL hoa)
             clear hba hba' hoa))
       have HCE:Hid (ChgsO wh W5.heap.size vh (D::(ids.take (k+1)).flatMap (UC old r))):=by unfold Hid;rw[HSTP.out,HUG.out,←List.cons_append,HFS.out,←List.append_assoc];exact HCh.out
       clear x0 x1 x2 x3 x4 x5 x6;go_wp2_with fail;go_roundw;case rel=>exact⟨k+1,by omega,by go_num,HCE.out,HBh.out⟩
       case measure=>simp[intOf];omega
   · have hkn:k=n3:=by omega
     have HCE:Hid (ChgsO wr w.heap.size (.slice AO (D::(ids.take k).flatMap (UC old r)).length capo) (D::ids.flatMap (UC old r))):=by unfold Hid;have h:ChgsO wr w.heap.size _ (D::(ids.take k).flatMap (UC old r)):=ChgsO.base ⟨vs,HO.out⟩ HB5w.out.size;rw[List.take_of_length_le (l:=ids) (by rw[HL3.out];omega)]at h;rw[List.take_of_length_le (l:=ids) (by rw[HL3.out];omega)];exact h
     generalize (D::(ids.take k).flatMap (UC old r)).length=NN at HCE ⊢;go_wp2_with fail;refine bodyPost_ret (v:=.tuple #[.slice AO _ capo,.int .i64 0]) (by simp[results,Tryz.results12,go_sem];try first | exact rfl | exact⟨rfl,rfl⟩) rfl ?_;exact⟨_,by rw[HE.out],by rw[HE.out];exact HCE.out,HBw.out⟩
end Go.Proofs.YtgmaamnofhmecaaGreatDoor
