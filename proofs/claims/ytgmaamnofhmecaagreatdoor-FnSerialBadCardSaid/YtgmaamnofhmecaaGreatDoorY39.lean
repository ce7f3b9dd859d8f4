import Derived.Test.YtgmaamnofhmecaaGreatDoorY38
import Derived.Test.YtgmaamnofhmecaaGreatDoorY34
set_option linter.unusedSimpArgs false
set_option maxHeartbeats 40000000
open Go.Lib renaming hid → zh
namespace Go.Proofs.YtgmaamnofhmecaaGreatDoor
open Go.RowKit
set_option linter.unusedVariables false
theorem zDN {w:World} {g t t':Nat} {cs cs':Array Value} (h:Blk w g t cs) (h':Blk w g t' cs'):t=t':=by
 have h2:=h.symm.trans h';injection h2 with h2;injection h2
def zHK (p b0:Nat) (w:World) (g:Nat):Prop:=g=p∨(b0≤g∧((∃cs,Blk w g 53 cs)∨∃cs,Blk w g 55 cs))
def zJY (p K b0:Nat) (w:World) (e:Ending) (w':World):Prop:=∃ov l,e=.returned ov∧zEW w' b0 ov l∧ov≠.slice none 0 0∧xH l∧SrcR w' p K∧Own.Chg (zHK p b0 w) w w'
theorem zIp {p K b0 base e size n:Nat} {w w':World} {v:Value} {xs:List Value} (hs:SrcR w p K) (hc:Own.Chg (zHK p b0 w) w w') (h:w.ownsRow base e size v n xs) (h0:e≠141) (h1:e≠53) (h2:e≠55):w'.ownsRow base e size v n xs :=
 Own.own_chg h hc (fun g hg hp=>by
  rcases hp with hp | ⟨_,⟨cs,hb⟩ | ⟨cs,hb⟩⟩
  · exact hs.not_own h h0 g hg hp
  · exact Own.own_blk_ne h hb h1 hg
  · exact Own.own_blk_ne h hb h2 hg)
theorem NodesO.bent {p K b0 base:Nat} {w w':World} {v:Value} {fs:List NodeD} (h:NodesO w base v fs) (hs:SrcR w p K) (hc:Own.Chg (zHK p b0 w) w w'):NodesO w' base v fs:=by
 obtain⟨vs,h⟩:=h;exact⟨vs,h.len,zIp hs hc h.row (by decide) (by decide) (by decide),fun j hj=>zIp hs hc (h.subs j hj) (by decide) (by decide) (by decide),h.aprt⟩
theorem zDa {p b0 g t:Nat} {w w':World} {cs:Array Value} (hc:Own.Chg (zHK p b0 w) w w') (h:Blk w g t cs) (hp:g≠p) (h1:t≠53) (h2:t≠55):Blk w' g t cs :=
 Own.Blk.chg h hc (fun hx=>by
  rcases hx with hx | ⟨_,⟨cs',hb⟩ | ⟨cs',hb⟩⟩
  · exact hp hx
  · exact h1 (zDN h hb)
  · exact h2 (zDN h hb))
theorem zJR {p K b0:Nat} {w w':World} (hd:Drawn p K w w'):Own.Chg (zHK p b0 w) w w':=hd.chg.mono fun g hg=>.inl hg
theorem zIZ {p K b0:Nat} {a b c:World} (hd:Drawn p K a b) (hk:Own.Chg (fun g=>(b0≤g∧((∃cs,Blk b g 53 cs)∨∃cs,Blk b g 55 cs))) b c):Own.Chg (zHK p b0 a) a c:=by
 refine⟨hk.os.trans hd.chg.os,hk.tape.trans hd.chg.tape,hk.output.trans hd.chg.output,Nat.le_trans hd.chg.size hk.size,fun g hg hn=>?_⟩;have hgp:g≠p:=fun e=>hn (.inl e);have h1:=hd.chg.block g hg hgp;rw[←h1];refine hk.block g (Nat.lt_of_lt_of_le hg hd.chg.size) (fun hx=>hn (.inr ⟨hx.1,?_⟩));rcases hx.2 with ⟨cs,hy⟩ | ⟨cs,hy⟩
 · exact .inl ⟨cs,h1.symm.trans hy⟩
 · exact .inr ⟨cs,h1.symm.trans hy⟩
theorem wX {P:Program} {w:World} {ops:Array Oper} {o:Oper} {a:Act} {K:Act→World→Prop} {Q:Exit→Act→World→Prop} {Z:Prop} (hgd:o.guard=none) (s x:Operand) (t:TypeId)
 (ho:o.op=.call { callee:=.builtin .append,args:=#[s,x],argTypes:=#[t,t] })
 (base:Nat) (e:TypeId) (i:TypeInfo) (z:Value) (size bytes:Nat) (ht:P.underlying t=some (.slice e)) (hi:P.info? e=some i) (hz:i.zero=some z)
 (hsize:i.size=size) (hby:i.bytes=bytes) (hzs:z.cells.size=size) (hsz:0<size)
 (v:Value) (n:Nat) (xs:List Value) (hs:a.eval s=v) (hown:w.ownsRow base e size v n xs)
 (ad:Addr) (m c:Nat) (news:List Value) (hx:a.eval x=.slice (some ad) m c) (hl:news.length=m*size) (hnews:∀j u,news[j]?=some u→w.cell? (ad.add j)=some u) (h1:∀u∈news,u.oneCell'=true)
 (h63:n+m≤maxLen) (hbytes:(n+m)*bytes≤140737488355328) (hbase:base≤w.heap.size)
 (h:∀v' w',w'.ownsRow base e size v' (n+m) (xs++news)→w.grownBy w' v.ownBlock→(v'=.slice none 0 0↔v=.slice none 0 0∧m=0)→K (a.put o.dst v') w') :
 if Region.wanted o (yielded ops a.tmps)=true then Oper.wp P o a w K Q else Z:=by
 have hw:Region.wanted o (yielded ops a.tmps)=true:=by simp[Region.wanted,hgd]
 rw[if_pos hw];exact wp_append_own w s x t ho base e i z size bytes ht hi hz hsize hby hzs hsz v n xs hs hown ad m c news hx hl hnews h1 h63 hbytes hbase h
set_option maxRecDepth 100000 in
theorem zGk (p K b0:Nat) (ov:Value) (l:List BatD) (w:World) (hpb:p<b0) (h:SrcR w p K) (hK:K≤137438953472) (hb:zEW w b0 ov l) (hnn:ov≠.slice none 0 0) (hgd:xH l) :
 Calls Tryz.prog 74 #[.pointer (some ⟨p,0,none⟩),ov] w (zJY p (K+6) b0 w):=by
 obtain⟨j0,hj,hy0,hy1,hy2⟩:=info_parts zDx;obtain⟨vs,hB⟩:=hb;obtain⟨OA,oc,rfl,hoc,_,hOA⟩:=Own.own_slice hB.row;have hl8:=hgd.1;have HB0:=zh hB;have HGD:=zh hgd;have HSR:=zh h;clear hB hgd;generalize hn:l.length=n at *;have HN:=zh hn;clear hn;by_cases hn0:n=0
 · subst hn0;clear h hOA;go_enter Tryz.func74,Tryz.ntmps74;go_wp2_with fail;go_ret;exact⟨_,l,rfl,⟨vs,HB0.out⟩,hnn,HGD.out,HSR.out.mono (by omega),Own.Chg.refl _ _⟩
 obtain⟨g,rfl,hgw,hbg⟩:=hOA (by omega);have HK1:=zh (vJ p K n w h (by omega) (by omega));clear h hOA;go_enter Tryz.func74,Tryz.ntmps74;have hn0':((n:Int)==0)=false:=by simpa using hn0
 go_wp2_with fail;refine HK1.out.mono ?_;rintro e w1 ⟨k,rfl,hk,hd1⟩;have hkn:k<n:=by omega
 have HD1:=zh hd1;have HB1:=zh (HB0.out.drawn HSR.out hd1);have HK2:=zh (vJ p (K+2) 8 w1 hd1.src (by omega) (by omega));clear hd1 HK1 hk;go_wp2_with fail;refine HK2.out.mono ?_;rintro e w2 ⟨y,rfl,hy,hd2⟩;have HB2:=zh (HB1.out.drawn HD1.out.src hd2);have HD2:=zh (HD1.out.trans hd2);have hy8:y<8:=by omega
 have hgw2:g<w2.heap.size:=Nat.lt_of_lt_of_le hgw HD2.out.chg.size;clear hd2 HD1 HB1 HK2 hy;have hkl:k<l.length:=by rw[HN.out];exact hkn
 have HCH:Hid (∀(z3:Nat) (W:World),Drawn p (K+6) w W→(∃cs,Blk W z3 53 cs)∨(∃cs,Blk W z3 55 cs)→b0≤z3→∀W',W.grownBy W' (some z3)→SrcR W' p (K+6)∧Own.Chg (zHK p b0 w) w W'):=fun z3 W hd hb h3 W' hg=>by have hc:Own.Chg (fun g=>g=z3) W W':=Own.Chg.of_grown hg (fun g e=>by cases e;rfl);exact⟨hd.src.chg hc (fun g e=>by omega),zIZ hd (hc.mono fun g e=>by subst e;exact⟨h3,hb⟩)⟩
 have HBG:Hid (∀W,BatsL W b0 (.slice (some ⟨g,0,none⟩) n oc) l vs→∃cs,Blk W g 53 cs):=fun W hb=>by have h:=hb.row;rw[HN.out]at h;exact Own.own_blk h
 by_cases hy0':y=0
 · subst hy0';have HK3:=zh (vJ p (K+2+2) 6 w2 HD2.out.src (by omega) (by omega));go_wp2_with fail;refine HK3.out.mono ?_;rintro e w3 ⟨z,rfl,hz,hd3⟩;have HB3:=zh (HB2.out.drawn HD2.out.src hd3);have HD3:=zh (HD2.out.trans hd3);have hz3:z≤5:=by omega
   have hgw3:g<w3.heap.size:=Nat.lt_of_lt_of_le hgw HD3.out.chg.size;have hfz:=(show w3.ownsRow b0 53 2 (.slice (some ⟨g,0,none⟩) n oc) n _ from by have h:=HB3.out.row;rw[HN.out]at h;exact h).frozenAt (k*2);have c0:=HB3.out.cellAt HN.out k 0 hkn (by decide);simp[batK]at c0;have HFI:=zh (HCH.out g w3 (HD3.out.mono (by omega)) (.inl (HBG.out _ HB3.out)) hbg _ (Own.grown_set w3 g (k*2) (.int .i64 z)));have HJB:=zh (HB3.out.job (z:=(z:Int)) HN.out hkn rfl);clear hd3 HK3 hz;go_wp2_with fail;go_ret;exact⟨_,_,rfl,⟨vs,HJB.out⟩,by simp,zJG HGD.out hkl,HFI.out.1,HFI.out.2⟩
 · by_cases hy1':y=1
   · subst hy1';have c1:=HB2.out.cellAt HN.out k 1 hkn (by decide);simp[batK]at c1;have hev:=HB2.out.evs k hkl;obtain⟨us,hou⟩:=hev;obtain⟨EA,ecap,hve,hec,_,hEA⟩:=Own.own_slice hou.row;have HOU:=zh hou;have HVE:=zh hve;rw[List.getD_eq_getElem?_getD]at hve;rw[hve]at c1;clear hou hve;generalize hm:(l.getD k default).evs.length=m at *;have HM:=zh hm;clear hm;by_cases hm0:m=0
     · have hmi:¬(0:Int)<(m:Int):=by omega
       go_wp2_with fail;go_ret;exact⟨_,l,rfl,⟨vs,HB2.out⟩,by simp,HGD.out,HD2.out.src.mono (by omega),zJR HD2.out⟩
     · obtain⟨ge,rfl,hge,hbe⟩:=hEA (by omega);have hmi:(0:Int)<(m:Int):=by omega
       have HOR:Hid (Own.OwnL evK w2 b0 55 (.slice (some ⟨ge,0,none⟩) m ecap) (l.getD k default).evs us):=by have h:=HOU.out;rw[HVE.out]at h;exact h
       have hrw:w2.ownsRow b0 55 5 (.slice (some ⟨ge,0,none⟩) m ecap) m (Own.flat evK (l.getD k default).evs us):=by have h:=HOR.out.row;rw[HM.out]at h;exact h
       have hfz:=hrw.frozenAt 3;have c3:=HOR.out.cellAt HM.out 0 3 (by omega) (by decide);simp[evK]at c3;have HFI:=zh (HCH.out ge w2 (HD2.out.mono (by omega)) (.inr (Own.own_blk hrw)) hbe _ (Own.grown_set w2 ge 3 (.string ⟨#[113]⟩)));have HJB:=zh (HB2.out.val (t:=⟨#[113]⟩) hkl HVE.out (by rw[HM.out];omega));clear hrw hEA;go_wp2_with fail;go_ret;exact⟨_,_,rfl,⟨vs,HJB.out⟩,by simp,zJE HGD.out hkl (by rw[HM.out];omega),HFI.out.1,HFI.out.2⟩
   · by_cases hy2':y=2
     · subst hy2';have HPX:=zh (HB2.out.prefix_ HN.out (Nat.le_of_lt hkn));have HNW:=zh (HB2.out.news HN.out (k+1));have HON:Hid (∀u∈(Own.flat batK l vs).drop ((k+1)*2),u.oneCell'=true):=fun u hu=>HB2.out.one (List.mem_of_mem_drop hu);have HFL:Hid ((Own.flat batK l vs).length=n*2):=by have h:=HB2.out.row.1;rw[HN.out]at h;exact h
       have hki:(k:Int)≤(oc:Int):=by omega
       have hki1:(k:Int)+1≤(n:Int):=by omega
       have hki2:(k:Int)+1≤(oc:Int):=by omega
       have hb0w:b0≤w2.heap.size:=by omega
       have hwk:IntKind.i64.wrap ((k:Int)+1)=(k:Int)+1:=by rw[IntKind.wrap_i64];omega
       have htn:((k:Int)+1).toNat=k+1:=by omega
       have h0k:(0:Int)≤(k:Int)+1:=by omega
       have hkk1:(k:Int)≤(k:Int)+1:=by omega
       by_cases hoe:oc=k+1
       · obtain rfl:n=k+1:=by omega
         subst hoe;have HNX:Hid (∀j u,((Own.flat batK l vs).drop ((k+1)*2))[j]?=some u→w2.cell? ((⟨g,0,none⟩:Addr).add j)=some u):=fun j u hu=>by rw[List.drop_of_length_le (by rw[HFL.out];exact Nat.le_refl _)]at hu;simp at hu
         go_wp2_with fail
         go_region_law (
          refine wX (by rfl) (.tmp 44) (.tmp 48) _ (by rfl) b0 53 j0 _ 2 32 Tryz.underlying43 hj hy0 hy1 hy2 rfl (by omega) (.slice (some ⟨g,0,none⟩) k (k+1)) k ((Own.flat batK l vs).take (k*2)) (by rfl) (by exact HPX.out) ⟨g,0,none⟩ (0) (0) ((Own.flat batK l vs).drop ((k+1)*2)) (by rfl) (by rw[List.length_drop,HFL.out];omega) (by first | exact HNW.out | exact HNX.out) (by exact HON.out) (by unfold maxLen;omega) (by omega) hb0w ?_
          intro v5 w5 hown5 hg5 hn5)
         have HBD:=zh (HB2.out.later (Below.refl _ _).drew);have HCC:=zh (HCH.out g w2.drew ((HD2.out.mono (by omega)).later (Below.refl _ _).drew) (.inl (HBG.out _ HBD.out)) hbg _ hg5);have HDL:=zh (HBD.out.del (v1:=v5) HN.out hkn hg5 (by simpa using hown5));go_wp2_with fail;go_ret;first | exact⟨_,_,rfl,⟨_,HDL.out⟩,fun e=>(by have:=hn5.1 e;simp at this),zBE HGD.out,HCC.out.1,HCC.out.2⟩ | exact⟨_,_,rfl,⟨_,(HDL.out).later (Below.refl _ _).drew⟩,fun e=>(by have:=hn5.1 e;simp at this),zBE HGD.out,HCC.out.1.later (Below.refl _ _).drew,HCC.out.2.trans (Own.Chg.of_below (Below.refl _ _).drew)⟩
       · go_wp2_with fail
         go_region_law (
          refine wX (by rfl) (.tmp 44) (.tmp 48) _ (by rfl) b0 53 j0 _ 2 32 Tryz.underlying43 hj hy0 hy1 hy2 rfl (by omega) (.slice (some ⟨g,0,none⟩) k oc) k ((Own.flat batK l vs).take (k*2)) (by rfl) (by exact HPX.out) ⟨g,(k+1)*2,none⟩ (n-(k+1)) (oc-(k+1)) ((Own.flat batK l vs).drop ((k+1)*2)) (by rfl) (by rw[List.length_drop,HFL.out];omega) (by first | exact HNW.out | exact HNX.out) (by exact HON.out) (by unfold maxLen;omega) (by omega) hb0w ?_
          intro v5 w5 hown5 hg5 hn5)
         have HBD:=zh (HB2.out.later (Below.refl _ _).drew);have HCC:=zh (HCH.out g w2.drew ((HD2.out.mono (by omega)).later (Below.refl _ _).drew) (.inl (HBG.out _ HBD.out)) hbg _ hg5);have HDL:=zh (HBD.out.del (v1:=v5) HN.out hkn hg5 (by simpa using hown5));go_wp2_with fail;go_ret;first | exact⟨_,_,rfl,⟨_,HDL.out⟩,fun e=>(by have:=hn5.1 e;simp at this),zBE HGD.out,HCC.out.1,HCC.out.2⟩ | exact⟨_,_,rfl,⟨_,(HDL.out).later (Below.refl _ _).drew⟩,fun e=>(by have:=hn5.1 e;simp at this),zBE HGD.out,HCC.out.1.later (Below.refl _ _).drew,HCC.out.2.trans (Own.Chg.of_below (Below.refl _ _).drew)⟩
     · have hn1:((y:Int)==0)=false:=by simp;omega
       have hn2:((y:Int)==1)=false:=by simp;omega
       have hn3:((y:Int)==2)=false:=by simp;omega
       go_wp2_with fail;go_ret;exact⟨_,l,rfl,⟨vs,HB2.out⟩,by simp,HGD.out,HD2.out.src.mono (by omega),zJR HD2.out⟩
end Go.Proofs.YtgmaamnofhmecaaGreatDoor
namespace Go.Proofs.YtgmaamnofhmecaaGreatDoor
open Go.RowKit
set_option linter.unusedVariables false
theorem zFp (A:Option Addr) (n c:Nat) (w:World) (h:BytesR w w.heap.size A n) (hn:n≤1048576) :
 Calls Tryz.prog 45 #[.slice A n c] w fun e w'=>e=.returned (.pointer (some ⟨w.heap.size,0,none⟩))∧SrcR w' w.heap.size 0∧Below w.heap.size w w':=by
 have H:=zh h;clear h;go_enter Tryz.func45,Tryz.ntmps45;go_wp2_with fail;go_ret;exact⟨rfl,⟨A,n,c,0,0,vO rfl,H.out.later (fun i hi=>Below.heap_alloc _ _ _ hi),Nat.le_refl _,hn,by omega⟩,Below.new _ _⟩
theorem BytesR.laterS {w w':World} {A:Option Addr} {n:Nat} (h:BytesR w w.heap.size A n) (hb:Below w.heap.size w w'):BytesR w' w'.heap.size A n:=fun hn=>by
 obtain⟨b,o,e,hb1,hc⟩:=h hn;refine⟨b,o,e,Nat.lt_of_lt_of_le hb1 hb.size,fun j hj=>?_⟩;obtain⟨x,h1,h2⟩:=hc j hj;exact⟨x,cell_later hb h1,h2⟩
def zHc (w:World) (e:Ending) (w':World):Prop:=∃tv fs ov l gv gs,e=.returned (.tuple #[.agg #[tv],ov,.agg #[gv]])∧NodesO w' w.heap.size tv fs∧xA fs=true∧yF fs∧zEW w' w.heap.size ov l∧ov≠.slice none 0 0∧xH l∧NodesO w' w.heap.size gv gs∧xA gs=true∧yF gs∧Below w.heap.size w w'
theorem BatsL.chgLow {P:Nat→Prop} {w w':World} {base:Nat} {v:Value} {l:List BatD} {vs:List Value} (h:BatsL w base v l vs) (k:Own.Chg P w w') (hP:∀g,P g→g<base):BatsL w' base v l vs :=
 ⟨h.len,Own.own_chg h.row k (Own.inP_of h.row fun g h1 _ hp=>by have:=hP g hp;omega),fun j hj=>(h.evs j hj).chg k (fun g hg=>.inr (hP g hg)),h.aprt⟩
theorem NodesO.chgLow {P:Nat→Prop} {w w':World} {base:Nat} {v:Value} {fs:List NodeD} (h:NodesO w base v fs) (k:Own.Chg P w w') (hP:∀g,P g→g<base):NodesO w' base v fs:=by
 obtain⟨vs,h⟩:=h;obtain⟨h1,h2⟩:=Own.OwnL.inP h (P:=fun g=>¬P g) (fun g h1 _ hp=>by have:=hP g hp;omega);exact⟨vs,Own.OwnL.chg h k h1 h2⟩
theorem uV {w W Y:World} {B:Nat} {tv ov gv:Value} {fs gs:List NodeD} {l:List BatD} {e:Ending} (hY:Own.Chg (fun g=>g=w.heap.size∨g=w.heap.size+1) W Y) (hB:w.heap.size+1<B) (he:e=.returned (.tuple #[.agg #[tv],ov,.agg #[gv]]))
 (h1:NodesO W B tv fs) (ht:xA fs=true∧yF fs) (h3:∃vs,BatsL W B ov l vs) (hnn:ov≠.slice none 0 0) (hg:xH l) (h2:NodesO W B gv gs) (hh:xA gs=true∧yF gs) (hb:Below w.heap.size w W):zHc w e Y:=by
 have hP:∀g,(g=w.heap.size∨g=w.heap.size+1)→g<B:=fun g hg=>by omega
 obtain⟨vs,h3⟩:=h3;exact⟨tv,fs,ov,l,gv,gs,he,(h1.chgLow hY hP).base (by omega),ht.1,ht.2,⟨vs,(h3.chgLow hY hP).base_ (by omega)⟩,hnn,hg,(h2.chgLow hY hP).base (by omega),hh.1,hh.2,Own.Chg.below hb hY (fun g hg=>by omega) (Nat.le_refl _)⟩
theorem zKv {w W:World} (u v:Value):Own.Chg (fun g=>g=w.heap.size∨g=w.heap.size+1) W ((W.setCell ⟨w.heap.size,0,none⟩ u).setCell ⟨w.heap.size+1,0,none⟩ v):=vY (vY (Own.Chg.refl _ _) (.inl rfl)) (.inr rfl)
set_option maxRecDepth 100000 in
theorem zCk (A:Option Addr) (n c:Nat) (w:World) (h:BytesR w w.heap.size A n) (hn:n≤1048576) :
 Calls Tryz.prog 20 #[.slice A n c] w (zHc w):=by
 obtain⟨WB,hWB⟩:∃WB,WB=(w.alloc (.cells #[.slice none 0 0] 26)).alloc (.cells #[.slice none 0 0] 26):=⟨_,rfl⟩;have HBB:Hid (Below w.heap.size w WB):=by subst hWB;exact(Below.new _ _).later (Below.new _ _)
 have HR2:Hid (Blk WB w.heap.size 26 #[.slice none 0 0]):=by subst hWB;exact uD _ _ _
 have HR4:Hid (Blk WB (w.heap.size+1) 26 #[.slice none 0 0]):=by subst hWB;exact xD _ _ _
 have HK1:=zh (zFp A n c WB (BytesR.laterS h HBB.out) hn);have hp3:WB.heap.size=w.heap.size+1+1:=by subst hWB;simp
 clear h hn;go_enter Tryz.func20,Tryz.ntmps20;go_wp2_with fail;rw[←hWB];clear hWB;refine HK1.out.mono ?_;rintro e w1 ⟨rfl,hs1,hb1⟩;rw[hp3]at hs1 hb1 ⊢;have HB1:=zh (HBB.out.trans (hb1.mono (by omega)));have HA2:=zh (Blk.later HR2.out (hb1.mono (Nat.le_of_eq hp3)) HR2.out.lt);have HA4:=zh (Blk.later HR4.out (hb1.mono (Nat.le_of_eq hp3)) HR4.out.lt);have hw1:w.heap.size+1+1<w1.heap.size:=hs1.lt;generalize hp:w.heap.size+1+1=p at *;have HS1:=zh hs1;have HK2:=zh (zFm p 0 w1 hs1 (by omega));clear hs1 hb1 HK1 HR2 HR4 HBB hp3;go_wp2_with fail;refine HK2.out.mono ?_;rintro e w2 ⟨tv,fs,rfl,hT,htr,hfi,hd⟩;obtain⟨A1,cap1,rfl,_,_⟩:=hT.reads;have HT2:=zh hT;have HD2:=zh hd;have HTF:=zh (And.intro htr hfi);have HE2:=zh (Blk.drawn HA2.out hd (by omega));have HE4:=zh (Blk.drawn HA4.out hd (by omega));have hw2:=hd.chg.size;clear hT htr hfi hd HK2 HA2 HA4;obtain⟨WX,hWX⟩:∃WX,WX=w2.alloc (.cells #[.slice A1 fs.length cap1] 26):=⟨_,rfl⟩;have HX:Hid (Blk WX w2.heap.size 26 #[.slice A1 fs.length cap1]):=by subst hWX;exact heap_alloc_new _ _
 have HDX:Hid (Drawn p (0+100) w1 WX):=by subst hWX;exact HD2.out.later (Below.new _ _)
 have HTX:Hid (NodesO WX w1.heap.size (.slice A1 fs.length cap1) fs):=by subst hWX;exact HT2.out.later (Below.new _ _)
 have HX2:Hid (Blk WX w.heap.size 26 #[.slice none 0 0]):=by subst hWX;exact HE2.out.alloc _
 have HX4:Hid (Blk WX (w.heap.size+1) 26 #[.slice none 0 0]):=by subst hWX;exact HE4.out.alloc _
 have hwx:=HX.out.lt;have HKB:=zh (zGj p (0+100) w1.heap.size (.slice A1 fs.length cap1) fs WX HDX.out.src (by omega) HTX.out HTF.out.1 HTF.out.2 (by omega));have x0:=HX.out.cell 0;simp at x0;clear HT2 HD2 HE2 HE4;go_wp2_with fail;rw[←hWX];clear hWX;refine HKB.out.mono ?_;rintro e w3 ⟨ov,l,gv,gs,rfl,hB,hnn,hgd,hG,hgr,hgf,hd3⟩;obtain⟨A2,cap2,rfl,_,_⟩:=hG.reads;obtain⟨vs,hBL⟩:=hB;obtain⟨g3,cap3,rfl,hcap3,_⟩:=hBL.some_ hnn;have HD3:=zh (HDX.out.trans hd3);have HT3:=zh (HTX.out.drawn HDX.out.src hd3);have HGF:=zh (And.intro hgr hgf);have HGD:=zh hgd;have hw3:=hd3.chg.size;have HX3:=zh (Blk.drawn HX.out hd3 (by omega));have HE2:=zh (Blk.drawn HX2.out hd3 (by omega));have HE4:=zh (Blk.drawn HX4.out hd3 (by omega));obtain⟨WY,hWY⟩:∃WY,WY=w3.alloc (.cells #[.slice A2 gs.length cap2] 26):=⟨_,rfl⟩;have HY:Hid (Blk WY w3.heap.size 26 #[.slice A2 gs.length cap2]):=by subst hWY;exact heap_alloc_new _ _
 have HDY:Hid (Drawn p (0+100+400) w1 WY):=by subst hWY;exact HD3.out.later (Below.new _ _)
 have HTY:Hid (NodesO WY w1.heap.size (.slice A1 fs.length cap1) fs):=by subst hWY;exact HT3.out.later (Below.new _ _)
 have HGY:Hid (NodesO WY w1.heap.size (.slice A2 gs.length cap2) gs):=by subst hWY;exact hG.later (Below.new _ _)
 have HBY:Hid (BatsL WY WX.heap.size (.slice (some ⟨g3,0,none⟩) l.length cap3) l vs):=by subst hWY;exact hBL.later (Below.new _ _)
 have HY2:Hid (Blk WY w.heap.size 26 #[.slice none 0 0]):=by subst hWY;exact HE2.out.alloc _
 have HY4:Hid (Blk WY (w.heap.size+1) 26 #[.slice none 0 0]):=by subst hWY;exact HE4.out.alloc _
 have HYX:Hid (Blk WY w2.heap.size 26 #[.slice A1 fs.length cap1]):=by subst hWY;exact HX3.out.alloc _
 have HKO:=zh (zIj p (0+100+400) 3 WY HDY.out.src (by omega) (by omega));have HWY:Hid (w1.heap.size≤WX.heap.size∧w3.heap.size<WY.heap.size):=⟨by omega,HY.out.lt⟩;clear hG hgr hgf hgd hBL HD3 HT3 HX3 HE2 HE4 HX2 HX4 HTX HKB x0 hd3;go_wp2_with fail;rw[←hWY];clear hWY;refine HKO.out.mono ?_;rintro e w4 ⟨bb,rfl,hd4⟩;have HD4:=zh (HDY.out.trans hd4);have HT4:=zh (HTY.out.drawn HDY.out.src hd4);have HG4:=zh (HGY.out.drawn HDY.out.src hd4);have HB4:=zh (HBY.out.drawn HDY.out.src hd4);have H42:=zh (Blk.drawn HY2.out hd4 (by omega));have H44:=zh (Blk.drawn HY4.out hd4 (by omega));have H4X:=zh (Blk.drawn HYX.out hd4 (by omega));have H4Y:=zh (Blk.drawn HY.out hd4 (by omega));clear hd4 HDY HTY HGY HBY HY2 HY4 HYX HY HKO;have HBL4:=zh (Own.Chg.below HB1.out HD4.out.chg (fun g e=>by rw[e,←hp];omega) (Nat.le_refl _));have HBB4:Hid (∃vs,BatsL w4 w1.heap.size (.slice (some ⟨g3,0,none⟩) l.length cap3) l vs):=⟨vs,HB4.out.base_ HWY.out.1⟩;cases bb
 · have r2:=H42.out.cell 0;have r4:=H44.out.cell 0;have f2:=H42.out.frozen 0;have f4:=H44.out.frozen 0;have l2:=H42.out.lt;have l4:=H44.out.lt;have x0:=H4X.out.cell 0;have y0:=H4Y.out.cell 0;have hn24:¬w.heap.size=w.heap.size+1:=by omega
   have hn42:¬w.heap.size+1=w.heap.size:=by omega
   have hn2x:¬w.heap.size=w2.heap.size:=by omega
   have hnx2:¬w2.heap.size=w.heap.size:=by omega
   have hn4x:¬w.heap.size+1=w2.heap.size:=by omega
   have hnx4:¬w2.heap.size=w.heap.size+1:=by omega
   have hn2y:¬w.heap.size=w3.heap.size:=by omega
   have hny2:¬w3.heap.size=w.heap.size:=by omega
   have hn4y:¬w.heap.size+1=w3.heap.size:=by omega
   have hny4:¬w3.heap.size=w.heap.size+1:=by omega
   simp at r2 r4 x0 y0;go_wp2_with fail
   go_region
   all_goals go_wp2_with fail
   all_goals
    refine bodyPost_ret (v:=.tuple #[.agg #[.slice A1 fs.length cap1],.slice (some ⟨g3,0,none⟩) l.length cap3,.agg #[.slice A2 gs.length cap2]]) (by simp[results,Tryz.results20,go_sem,r2,r4,hn24,hn42]) rfl ?_
    first
      | exact uV (B:=w1.heap.size) (zKv _ _) (by omega) rfl HT4.out HTF.out HBB4.out hnn HGD.out HG4.out HGF.out HBL4.out
      | exact uV (B:=w1.heap.size) (chg2' _ _) (by omega) rfl HT4.out HTF.out HBB4.out hnn HGD.out HG4.out HGF.out HBL4.out
      | exact uV (B:=w1.heap.size) ((zKv _ _).trans (Own.Chg.of_below (Below.refl _ _).drew)) (by omega) rfl HT4.out HTF.out HBB4.out hnn HGD.out HG4.out HGF.out HBL4.out
      | exact uV (B:=w1.heap.size) ((chg2' _ _).trans (Own.Chg.of_below (Below.refl _ _).drew)) (by omega) rfl HT4.out HTF.out HBB4.out hnn HGD.out HG4.out HGF.out HBL4.out
 · have HKE:=zh (zGk p (0+100+400+2) WX.heap.size (.slice (some ⟨g3,0,none⟩) l.length cap3) l w4 (by omega) HD4.out.src (by omega) ⟨vs,HB4.out⟩ hnn HGD.out);go_wp2_with fail;refine HKE.out.mono ?_;rintro e w5 ⟨ov,l5,rfl,hb5,hn5,hg5,hs5,hc5⟩;obtain⟨vs5,hb5⟩:=hb5;obtain⟨g5,cap5,rfl,_,_⟩:=hb5.some_ hn5;have HT5:=zh (HT4.out.bent HD4.out.src hc5);have HG5:=zh (HG4.out.bent HD4.out.src hc5);have HBB5:Hid (∃vs,BatsL w5 w1.heap.size (.slice (some ⟨g5,0,none⟩) l5.length cap5) l5 vs):=⟨vs5,hb5.base_ HWY.out.1⟩;have HGD5:=zh hg5;have H52:=zh (zDa hc5 H42.out (by omega) (by decide) (by decide));have H54:=zh (zDa hc5 H44.out (by omega) (by decide) (by decide));have H5X:=zh (zDa hc5 H4X.out (by omega) (by decide) (by decide));have H5Y:=zh (zDa hc5 H4Y.out (by omega) (by decide) (by decide));have HBL5:=zh (Own.Chg.below HBL4.out hc5 (fun g e=>by rcases e with e | e;(rw[e,←hp];omega);(have:=e.1;omega)) (Nat.le_refl _));clear hb5 hg5 hs5 hc5 HKE HB4 HD4;have r2:=H52.out.cell 0;have r4:=H54.out.cell 0;have f2:=H52.out.frozen 0;have f4:=H54.out.frozen 0;have l2:=H52.out.lt;have l4:=H54.out.lt;have x0:=H5X.out.cell 0;have y0:=H5Y.out.cell 0;have hn24:¬w.heap.size=w.heap.size+1:=by omega
   have hn42:¬w.heap.size+1=w.heap.size:=by omega
   have hn2x:¬w.heap.size=w2.heap.size:=by omega
   have hnx2:¬w2.heap.size=w.heap.size:=by omega
   have hn4x:¬w.heap.size+1=w2.heap.size:=by omega
   have hnx4:¬w2.heap.size=w.heap.size+1:=by omega
   have hn2y:¬w.heap.size=w3.heap.size:=by omega
   have hny2:¬w3.heap.size=w.heap.size:=by omega
   have hn4y:¬w.heap.size+1=w3.heap.size:=by omega
   have hny4:¬w3.heap.size=w.heap.size+1:=by omega
   simp at r2 r4 x0 y0;go_wp2_with fail
   go_region
   all_goals go_wp2_with fail
   all_goals
    refine bodyPost_ret (v:=.tuple #[.agg #[.slice A1 fs.length cap1],.slice (some ⟨g5,0,none⟩) l5.length cap5,.agg #[.slice A2 gs.length cap2]]) (by simp[results,Tryz.results20,go_sem,r2,r4,hn24,hn42]) rfl ?_
    first
      | exact uV (B:=w1.heap.size) (zKv _ _) (by omega) rfl HT5.out HTF.out HBB5.out hn5 HGD5.out HG5.out HGF.out HBL5.out
      | exact uV (B:=w1.heap.size) (chg2' _ _) (by omega) rfl HT5.out HTF.out HBB5.out hn5 HGD5.out HG5.out HGF.out HBL5.out
      | exact uV (B:=w1.heap.size) ((zKv _ _).trans (Own.Chg.of_below (Below.refl _ _).drew)) (by omega) rfl HT5.out HTF.out HBB5.out hn5 HGD5.out HG5.out HGF.out HBL5.out
      | exact uV (B:=w1.heap.size) ((chg2' _ _).trans (Own.Chg.of_below (Below.refl _ _).drew)) (by omega) rfl HT5.out HTF.out HBB5.out hn5 HGD5.out HG5.out HGF.out HBL5.out
end Go.Proofs.YtgmaamnofhmecaaGreatDoor
