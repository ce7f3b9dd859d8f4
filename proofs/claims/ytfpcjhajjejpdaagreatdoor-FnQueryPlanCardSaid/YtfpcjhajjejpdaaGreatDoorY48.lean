import Derived.Test.YtfpcjhajjejpdaaGreatDoorY47
import Derived.Test.YtfpcjhajjejpdaaGreatDoorY37
import Derived.Test.YtfpcjhajjejpdaaGreatDoorY22
open Go.Lib renaming hid → zh
namespace Go.Proofs.YtfpcjhajjejpdaaGreatDoor
open Go.RowKit
set_option linter.unusedVariables false
def zAN (fs:List NodeD) (b:TableD) (q:QueryD) (p:PlanD):Int × List (List ByteArray) :=
 if (uA fs&&vI b q p)=true then (if (yB b.cols b.glob fs p).1=0 then (0,wP b q (yB b.cols b.glob fs p).2) else ((yB b.cols b.glob fs p).1,[])) else (1,[])
theorem wV {b:TableD} {q:QueryD} {p:PlanD} (h:vI b q p=true):xK b q=true:=by
 unfold vI at h;rw[Bool.and_eq_true]at h;exact h.1
theorem zJU {o:Option (List ByteArray)} (h:zAF o=0):∃x,o=some x:=by
 cases o with
 | none=>exact absurd h (by decide)
 | some x=>exact⟨x,rfl⟩
theorem zEO {cs:List ByteArray} {ns:List NodeD} {key:ByteArray} (hc:cs.length≤5) (h:(wG cs ns key).1=0):wH (wG cs ns key).2∧(wG cs ns key).2.length=cs.length:=by
 unfold wG at h ⊢;split
 · next hn=>rw[if_pos hn]at h;exact absurd h (by decide)
 · next hn=>rw[if_neg hn]at h;obtain⟨x,hx⟩:=zJU h;simp only[hx,Option.getD_some];exact zEN hc (zKo (cols:=ByteArray.empty) hx)
theorem zEL (f:ByteArray→Int × List ByteArray):∀ks:List ByteArray,∀r∈(uC f ks).2,∃k,(f k).1=0∧r=(f k).2
 | [],r,hr=>by simp[uC]at hr
 | k::t,r,hr=>by
   unfold uC at hr;split at hr
   · next h0 =>
     split at hr
     · rcases List.mem_cons.1 hr with h1 | h1
       · exact⟨k,h0,h1⟩
       · exact zEL f t r h1
     · simp at hr
   · simp at hr
theorem zAR {cs:List ByteArray} {g:ByteArray} {fs:List NodeD} {p:PlanD} (hc:cs.length≤5) (h:(yB cs g fs p).1=0):(yB cs g fs p).2.length≤24∧∀r∈(yB cs g fs p).2,wH r∧r.length=cs.length:=by
 unfold yB at h ⊢;split
 · split
   · exact⟨by simp,fun r hr=>by simp at hr⟩
   · split
     · next h0 =>
       refine⟨by simp,fun r hr=>?_⟩;obtain rfl:r=_:=by simpa using hr
       exact zEO hc h0
     · exact⟨by simp,fun r hr=>by simp at hr⟩
 · next h1 =>
   rw[if_neg h1]at h;split
   · split
     · split
       · exact⟨by simp,fun r hr=>by simp at hr⟩
       · next hl=>refine⟨by omega,fun r hr=>?_⟩;obtain⟨k,hk,rfl⟩:=zEL _ _ r hr;exact zEO hc hk
     · exact⟨by simp,fun r hr=>by simp at hr⟩
   · next h2=>rw[if_neg h2]at h;exact zBn hc h
theorem zCC {fs:List NodeD} {b:TableD} {q:QueryD} {p:PlanD} (hb:b.small) (hq:q.small):(zAN fs b q p).2.length≤1048576∧∀d∈(zAN fs b q p).2,d.length≤1048576:=by
 unfold zAN;split
 · next h =>
   simp only[Bool.and_eq_true]at h;obtain⟨⟨f1,f2⟩,_⟩:=zP0 (wV h.2);split
   · next h0 =>
     obtain⟨g1,g2⟩:=zAR f2 h0;refine⟨?_,fun r hr=>?_⟩
     · have h1:=zHh q.limit (uN b.cols q ((yB b.cols b.glob fs p).2.filter (yI b.cols q.wher)));have h2:=zDA b.cols q ((yB b.cols b.glob fs p).2.filter (yI b.cols q.wher));have h3:=List.length_filter_le (yI b.cols q.wher) (yB b.cols b.glob fs p).2;unfold wP;rw[List.length_map,h1];split <;> omega
     · unfold wP at hr;obtain⟨x,_,rfl⟩:=List.mem_map.1 hr;unfold wO zAd;rw[List.length_map];have k1:=hb.2.2.1.1;have k2:=hq.2.1.1;split <;> omega
   · exact⟨by simp,fun r hr=>by simp at hr⟩
 · exact⟨by simp,fun r hr=>by simp at hr⟩
set_option maxRecDepth 100000 in
set_option maxHeartbeats 4000000 in
theorem zEi (A:Option Addr) (n c:Nat) (b0 b1 b2 b3 c0 c1 c2 c3 c4 c5 e0 e1 e2:Value) (fs:List NodeD) (b:TableD) (d:QueryD) (p:PlanD) (w:World) (ht:Nodes w w.heap.size A n fs) (hb:TableR w w.heap.size b0 b1 b2 b3 b) (h:QueryR w w.heap.size c0 c1 c2 c3 c4 c5 d) (hp:PlanR w w.heap.size e0 e1 e2 p) (hts:vC fs) (hbs:b.small) (hs:d.small) (hps:p.small) :
 Calls Tryz.prog 19 #[.agg #[.slice A n c],.agg #[b0,b1,b2,b3],.agg #[c0,c1,c2,c3,c4,c5],.agg #[e0,e1,e2]] w (yS (zAN fs b d p) w):=by
 have HK1:=zh (fun W (hW:Below w.heap.size w W)=>zL0 A n c fs W (ht.later hW) hts);have HK2:=zh (fun W (hW:Below w.heap.size w W)=>zAY b0 b1 b2 b3 c0 c1 c2 c3 c4 c5 e0 e1 e2 b d p W (hb.later hW) (h.later hW) (hp.later hW) hbs hs);have HK3:Hid (uA fs=true→vI b d p=true→∀W (hW:Below w.heap.size w W),Calls Tryz.prog 63 #[.agg #[.slice A n c],.agg #[b0,b1,b2,b3],.agg #[e0,e1,e2]] W (yS (yB b.cols b.glob fs p) W)):=fun h1 h2 W hW=>by obtain⟨⟨f1,f2⟩,_⟩:=zP0 (wV h2);exact zHX A n c b0 b1 b2 b3 e0 e1 e2 fs b p W (ht.later hW) (hb.later hW) (hp.later hW) hts h1 f1 f2 hps
 have HK4:Hid (vI b d p=true→(yB b.cols b.glob fs p).1=0→∀W (hW:Below w.heap.size w W) v,RowsI W w.heap.size v (yB b.cols b.glob fs p).2→∃A4 n4 cap4,v=.slice A4 n4 cap4∧Calls Tryz.prog 50 #[.agg #[b0,b1,b2,b3],.agg #[c0,c1,c2,c3,c4,c5],.slice A4 n4 cap4] W (zCj (wP b d (yB b.cols b.glob fs p).2) W)):=fun h2 h3 W hW v hv=>by obtain⟨⟨f1,f2⟩,f3,f4,f4',f5,f6⟩:=zP0 (wV h2);obtain⟨g1,g2⟩:=zAR f2 h3;obtain⟨A4,cap4,rfl,_,hrd⟩:=xL hv;exact⟨A4,_,cap4,rfl,zIa A4 _ cap4 b0 b1 b2 b3 c0 c1 c2 c3 c4 c5 b d _ W (hb.later hW) (h.later hW) hrd hbs hs (fun r hr=>(g2 r hr).1) g1 f3 f4 f4' f5 (fun r hr=>(g2 r hr).2)⟩
 have HR:Hid (zAN fs b d p=if (uA fs&&vI b d p)=true then (if (yB b.cols b.glob fs p).1=0 then (0,wP b d (yB b.cols b.glob fs p).2) else ((yB b.cols b.glob fs p).1,[])) else (1,[])):=rfl;generalize uA fs=xt at *;generalize vI b d p=xf at *;obtain⟨rfl,rfl,⟨A2,n2,p2,rfl,s2,k2⟩,⟨A3,n3,p3,rfl,s3,k3⟩⟩:=hb;obtain⟨rfl,⟨B1,m1,q1,rfl,t1,l1⟩,⟨B2,m2,q2,rfl,t2,l2⟩,rfl,rfl,rfl⟩:=h;obtain⟨rfl,rfl,rfl⟩:=hp;clear s2 s3 t1 t2 ht hts hbs hs hps;generalize zAN fs b d p=R at *;generalize hrt:yB b.cols b.glob fs p=rt at *;clear hrt;generalize hmd:wP b d rt.2=md at *;clear hmd;generalize b.name=nm at *;generalize b.glob=gl at *;generalize d.table=tb at *;generalize d.order=od at *;generalize d.desc=ds at *;generalize d.limit=lm at *;generalize p.kind=kd at *;generalize p.col=pc at *;generalize p.val=pv at *;have HB0:=zh (uR w (.cells #[.slice A n c] 26) (.cells #[.string nm,.string gl,.slice A2 n2 p2,.slice A3 n3 p3] 29) (.cells #[.string tb,.slice B1 m1 q1,.slice B2 m2 q2,.string od,.bool ds,.int .i64 lm] 32) (.cells #[.int .i64 kd,.string pc,.string pv] 49));have HX0:=zh (wZ w (.cells #[.slice A n c] 26) (.cells #[.string nm,.string gl,.slice A2 n2 p2,.slice A3 n3 p3] 29) (.cells #[.string tb,.slice B1 m1 q1,.slice B2 m2 q2,.string od,.bool ds,.int .i64 lm] 32) (.cells #[.int .i64 kd,.string pc,.string pv] 49));have HX1:=zh (xZ w (.cells #[.slice A n c] 26) (.cells #[.string nm,.string gl,.slice A2 n2 p2,.slice A3 n3 p3] 29) (.cells #[.string tb,.slice B1 m1 q1,.slice B2 m2 q2,.string od,.bool ds,.int .i64 lm] 32) (.cells #[.int .i64 kd,.string pc,.string pv] 49));have HX2:=zh (yZ w (.cells #[.slice A n c] 26) (.cells #[.string nm,.string gl,.slice A2 n2 p2,.slice A3 n3 p3] 29) (.cells #[.string tb,.slice B1 m1 q1,.slice B2 m2 q2,.string od,.bool ds,.int .i64 lm] 32) (.cells #[.int .i64 kd,.string pc,.string pv] 49));have HX3:=zh (zZ0 w (.cells #[.slice A n c] 26) (.cells #[.string nm,.string gl,.slice A2 n2 p2,.slice A3 n3 p3] 29) (.cells #[.string tb,.slice B1 m1 q1,.slice B2 m2 q2,.string od,.bool ds,.int .i64 lm] 32) (.cells #[.int .i64 kd,.string pc,.string pv] 49));go_enter Tryz.func19,Tryz.ntmps19;go_wp2_with fail;refine(HK1.out _ HB0.out).mono ?_;rintro e w1 ⟨rfl,hb1⟩;have HB1:=zh (HB0.out.later hb1);have HY0:=zh (Blk.later HX0.out hb1 (by first | (simp;done) | (simp;omega)));have HY1:=zh (Blk.later HX1.out hb1 (by first | (simp;done) | (simp;omega)));have HY2:=zh (Blk.later HX2.out hb1 (by first | (simp;done) | (simp;omega)));have HY3:=zh (Blk.later HX3.out hb1 (by first | (simp;done) | (simp;omega)));clear hb1 HX0 HX1 HX2 HX3;cases xt
 · have HE:Hid (R=(1,[])):=by unfold Hid;rw[HR.out];rfl
   go_wp2_with fail;refine bodyPost_ret (v:=.tuple #[.slice (some ⟨_,0,none⟩) 0 0,.int .i64 _]) (by simp[results,Tryz.results19,go_sem];try exact⟨rfl,rfl⟩) rfl ?_;exact⟨_,by rw[HE.out],by rw[HE.out];exact uJ _ _ HB1.out.size,HB1.out.later (Below.new _ _)⟩
 have p0:=HY0.out.cell;have p1:=HY1.out.cell;have p2':=HY2.out.cell;have z2:=HY2.out.lt;have p3':=HY3.out.cell;have z3:=HY3.out.lt;go_wp2_with fail;refine(HK2.out _ HB1.out).mono ?_;rintro e w2 ⟨rfl,hb2⟩;have HB2:=zh (HB1.out.later hb2);have HZ0:=zh (HY0.out.later hb2 HY0.out.lt);have HZ1:=zh (HY1.out.later hb2 HY1.out.lt);have HZ2:=zh (HY2.out.later hb2 HY2.out.lt);have HZ3:=zh (HY3.out.later hb2 HY3.out.lt);clear hb2 p0 p1 p2' z2 p3' z3 HY0 HY1 HY2 HY3;cases xf
 · have HE:Hid (R=(1,[])):=by unfold Hid;rw[HR.out];rfl
   go_wp2_with fail;refine bodyPost_ret (v:=.tuple #[.slice (some ⟨_,0,none⟩) 0 0,.int .i64 _]) (by simp[results,Tryz.results19,go_sem];try exact⟨rfl,rfl⟩) rfl ?_;exact⟨_,by rw[HE.out],by rw[HE.out];exact uJ _ _ HB2.out.size,HB2.out.later (Below.new _ _)⟩
 have hRS:R=if rt.1=0 then (0,md) else (rt.1,[]):=by rw[HR.out];rfl
 have HRS:=zh hRS;have HK3':=zh (HK3.out (by first | rfl | trivial) (by first | rfl | trivial));have HK4':=zh (HK4.out (by first | rfl | trivial));clear hRS HR HK3 HK4;have p0:=HZ0.out.cell;have p1:=HZ1.out.cell;have p3':=HZ3.out.cell;go_wp2_with fail;refine(HK3'.out _ HB2.out).mono ?_;rintro e w3 ⟨v3,rfl,ho3,hb3⟩;have HB3:=zh (HB2.out.later hb3);have HO3:=zh (ho3.base HB2.out.size);have HW1:=zh (HZ1.out.later hb3 HZ1.out.lt);have HW2:=zh (HZ2.out.later hb3 HZ2.out.lt);clear ho3 hb3 p0 p1 p3' HZ3 HZ0 HZ1 HZ2 HK3' HK1 HK2;have p1:=HW1.out.cell;have p2':=HW2.out.cell;obtain⟨rc,rs⟩:=rt;by_cases h0:rc=0
 · have HE:Hid (R=(0,md)):=by unfold Hid;rw[HRS.out,if_pos h0]
   obtain⟨A4,n4,cap4,rfl,hk4⟩:=HK4'.out h0 _ HB3.out _ HO3.out;have HM:=zh hk4;clear hk4 HK4' HRS HO3;subst h0;go_wp2_with fail;refine HM.out.mono ?_;rintro e w5 ⟨v5,rfl,ho5,hb5⟩;have HO5:=zh (ho5.base HB3.out.size);have HB5:=zh (HB3.out.later hb5);obtain⟨A5,cap5,rfl,_⟩:=xL ho5;clear ho5 hb5 p1 p2' HW1 HW2;go_wp2_with fail;refine bodyPost_ret (v:=.tuple #[.slice A5 _ cap5,.int .i64 _]) (by simp[results,Tryz.results19,go_sem];try exact⟨rfl,rfl⟩) rfl ?_;exact⟨_,by rw[HE.out],by rw[HE.out];exact HO5.out,HB5.out⟩
 · have HE:Hid (R=(rc,[])):=by unfold Hid;rw[HRS.out,if_neg h0]
   have i1:(rc==0)=false:=by simp[h0]
   have i2:(rc != 0)=true:=by simp[h0]
   obtain⟨A4,cap4,rfl,_⟩:=xL HO3.out;clear HK4' HRS HO3 p1 p2' HW1 HW2;go_wp2_with fail;refine bodyPost_ret (v:=.tuple #[.slice (some ⟨_,0,none⟩) 0 0,.int .i64 _]) (by simp[results,Tryz.results19,go_sem];try exact⟨rfl,rfl⟩) rfl ?_;exact⟨_,by rw[HE.out],by rw[HE.out];exact uJ _ _ HB3.out.size,HB3.out.later (Below.new _ _)⟩
end Go.Proofs.YtfpcjhajjejpdaaGreatDoor
namespace Go.Proofs.YtfpcjhajjejpdaaGreatDoor
open Go.RowKit
set_option linter.unusedVariables false
def xJ (kd:Int) (f:ByteArray→Int × List ByteArray):List ByteArray→Int × List (List ByteArray)
 | []=>(0,[])
 | k::r=>if (f k).1=3∧kd=1 then xJ kd f r else if (f k).1=0 then (if (xJ kd f r).1=0 then (0,(f k).2::(xJ kd f r).2) else ((xJ kd f r).1,[])) else ((f k).1,[])
theorem zEK (kd:Int) (f:ByteArray→Int × List ByteArray) (ks:List ByteArray) (k:Nat) (acc:List (List ByteArray)) (h:k<ks.length) (hf:(f (ks.getD k ByteArray.empty)).1=3) (hk:kd=1):wL acc (xJ kd f (ks.drop k))=wL acc (xJ kd f (ks.drop (k+1))):=by
 rw[List.getD_eq_getElem?_getD,List.getElem?_eq_getElem h]at hf;simp only[Option.getD_some]at hf;rw[List.drop_eq_getElem_cons h,xJ,if_pos ⟨hf,hk⟩]
theorem zGi (kd:Int) (f:ByteArray→Int × List ByteArray) (ks:List ByteArray) (k:Nat) (acc:List (List ByteArray)) (h:k<ks.length) (hn:¬((f (ks.getD k ByteArray.empty)).1=3∧kd=1)) (hf:(f (ks.getD k ByteArray.empty)).1≠0):wL acc (xJ kd f (ks.drop k))=((f (ks.getD k ByteArray.empty)).1,[]):=by
 rw[List.getD_eq_getElem?_getD,List.getElem?_eq_getElem h]at hf hn ⊢;simp only[Option.getD_some]at hf hn ⊢;rw[List.drop_eq_getElem_cons h,xJ,if_neg hn,if_neg hf];unfold wL;rw[if_neg hf]
theorem zHK (kd:Int) (f:ByteArray→Int × List ByteArray) (ks:List ByteArray) (k:Nat) (acc:List (List ByteArray)) (h:k<ks.length) (hf:(f (ks.getD k ByteArray.empty)).1=0):wL acc (xJ kd f (ks.drop k))=wL (acc++[(f (ks.getD k ByteArray.empty)).2]) (xJ kd f (ks.drop (k+1))):=by
 rw[List.getD_eq_getElem?_getD,List.getElem?_eq_getElem h]at hf ⊢;simp only[Option.getD_some]at hf ⊢;rw[List.drop_eq_getElem_cons h,xJ,if_neg (by rw[hf];omega),if_pos hf];unfold wL;by_cases h0:(xJ kd f (ks.drop (k+1))).1=0
 · rw[if_pos h0,if_pos rfl,if_pos h0];simp
 · rw[if_neg h0,if_neg h0,if_neg h0]
theorem zGh (kd:Int) (f:ByteArray→Int × List ByteArray) (ks:List ByteArray) (acc:List (List ByteArray)):wL acc (xJ kd f (ks.drop ks.length))=(0,acc):=by
 rw[List.drop_length];simp[wL,xJ]
theorem zBU (kd:Int) (f:ByteArray→Int × List ByteArray):∀ks:List ByteArray,xJ kd f ks=wL [] (xJ kd f ks)
 | []=>rfl
 | k::r=>by
   rw[xJ];split
   · exact zBU kd f r
   · split
     · split
       · simp[wL]
       · next h=>simp[wL,h]
     · next h=>simp[wL,h]
theorem zGg (f:ByteArray→Int × List ByteArray):∀ks:List ByteArray,xJ 2 f ks=uC f ks
 | []=>rfl
 | k::r=>by rw[xJ,uC,zGg f r,if_neg (by omega)]
def zDj (r:Int × List (List ByteArray)):Int × List (List ByteArray):=if r.1=0 then (if 24<r.2.length then (4,[]) else r) else (r.1,[])
theorem zMf (cs:List ByteArray) (g:ByteArray) (fs:List NodeD) (p:PlanD) (h:p.kind=1):yB cs g fs p=zDj (xJ 1 (wG cs (vA g fs)) [p.val]):=by
 unfold yB zDj;rw[if_pos h];simp only[xJ];generalize wG cs (vA g fs) p.val=r;by_cases h3:r.1=3 <;> by_cases h0:r.1=0 <;> simp[h3,h0]
theorem zMe (cs:List ByteArray) (g:ByteArray) (fs:List NodeD) (p:PlanD) (h:p.kind=2):yB cs g fs p=zDj (xJ 2 (wG cs (vA g fs)) (yL g p.col p.val fs)):=by
 unfold yB zDj;rw[if_neg (by omega),if_pos h,zGg]
theorem zJq (cs:List ByteArray) (g:ByteArray) (fs:List NodeD) (p:PlanD) (h:p.kind=3):yB cs g fs p=zF0 cs (vA g fs):=by
 unfold yB;rw[if_neg (by omega),if_neg (by omega)]
theorem zJr {b:TableD} {q:QueryD} {p:PlanD} (h:vI b q p=true):p.kind=1∨p.kind=2∨p.kind=3:=by
 unfold vI at h;rw[Bool.and_eq_true]at h;have h2:=h.2;unfold zBb at h2;split at h2
 · next h3=>exact .inr (.inr h3)
 · split at h2
   · next h1=>exact .inl h1
   · split at h2
     · next hk=>exact .inr (.inl hk)
     · simp at h2
end Go.Proofs.YtfpcjhajjejpdaaGreatDoor
