import Derived.Test.YtgmaamnofhmecaaGreatDoorY35
import Derived.Test.YtgmaamnofhmecaaGreatDoorY36
import Derived.Test.YtgmaamnofhmecaaGreatDoorY37
set_option linter.unusedSimpArgs false
open Go.Lib renaming hid → zh
namespace Go.Proofs.YtgmaamnofhmecaaGreatDoor
open Go.RowKit
set_option linter.unusedVariables false
theorem NodesO.other {w w':World} {base base' e' size' n':Nat} {v u:Value} {fs:List NodeD} {xs':List Value} (h:NodesO w base v fs) (hr:w.ownsRow base' e' size' u n' xs') (hg:w.grownBy w' u.ownBlock) (h1:102≠e') (h2:9≠e'):NodesO w' base v fs:=by
 obtain⟨vs,h⟩:=h;exact⟨vs,h.len,h.row.kept hg (Own.apart_types h.row hr h1),fun j hj=>World.ownsRow.kept (h.subs j hj) hg (Own.apart_types (h.subs j hj) hr h2),h.aprt⟩
theorem BatsL.evGrown {w w':World} {base b1:Nat} {v u:Value} {l:List BatD} {vs:List Value} {gs:List EvD} (h:BatsL w base v l vs) (hr:EvsO w b1 u gs) (hg:w.grownBy w' u.ownBlock) (ha:∀x∈vs,Own.apart x u):BatsL w' base v l vs:=by
 have hr':=hr;obtain⟨us,ho⟩:=hr';exact⟨h.len,h.row.kept hg (Own.apart_types h.row ho.row (by decide)),fun j hj=>(h.evs j hj).apart_ hr hg (ha _ (Own.mem_of_getD _ _ _ (by rw[h.len];exact hj))),h.aprt⟩
theorem BatsL.setFar {w:World} {base g i:Nat} {v u:Value} {l:List BatD} {vs:List Value} {cs:Array Value} (h:BatsL w base v l vs) (hB:Blk w g 53 cs) (hne:v.ownBlock≠some g):BatsL (w.setCell ⟨g,i,none⟩ u) base v l vs :=
 ⟨h.len,h.row.kept (row:=some g) (Own.grown_set _ _ _ _) (.inr hne),fun j hj=>(h.evs j hj).setBlk hB (by decide) (by decide),h.aprt⟩
theorem zHO {w:World} {g:Nat} (hg:w.heap.size=g) (base:Nat) (h:base≤w.heap.size):zEW (w.alloc (.cells #[] 53)) base (.slice (some ⟨g,0,none⟩) 0 0) []:=by
 subst hg;exact zJa w base h
theorem zDK {w:World} {g t:Nat} {cs:Array Value} (hg:w.heap.size=g):∀j u,cs.toList[j]?=some u→(w.alloc (.cells cs t)).cell? ((⟨g,0,none⟩:Addr).add j)=some u:=by
 subst hg;exact uL w cs t
structure BdS (p K:Nat) (w:World) (b0:Nat) (tv:Value) (fs:List NodeD) (ov:Value) (l:List BatD) (vs:List Value) (X:World):Prop where
 tre:Blk X w.heap.size 26 #[tv]
 res:Blk X (w.heap.size+1) 26 #[.slice none 0 0]
 own:NodesO X b0 tv fs
 bat:BatsL X w.heap.size ov l vs
 tok:xA fs=true
 fin:yF fs
 good:xH l
 nn:ov≠.slice none 0 0
 draw:Drawn p K w X
structure BdI (p K:Nat) (w:World) (b0:Nat) (tv:Value) (fs:List NodeD) (ov:Value) (l:List BatD) (vs:List Value) (b1 qb:Nat) (job:Int) (ev:Value) (es:List EvD) (us:List Value) (X:World):Prop where
 base:BdS p K w b0 tv fs ov l vs X
 box:Blk X qb 53 #[.int .i64 job,ev]
 evs:Own.OwnL evK X b1 55 ev es us
 egood:∀e∈es,yY e
 far:∀g,ov.ownBlock=some g→g<b1
section
variable {p K K' b0 b1 qb:Nat} {w X Y:World} {tv ov ev:Value} {fs:List NodeD} {l:List BatD} {vs us:List Value} {es:List EvD} {job:Int}
theorem BdS.later (s:BdS p K w b0 tv fs ov l vs X) (hb:Below X.heap.size X Y):BdS p K w b0 tv fs ov l vs Y:=⟨s.tre.later hb s.tre.lt,s.res.later hb s.res.lt,s.own.later hb,s.bat.later hb,s.tok,s.fin,s.good,s.nn,s.draw.later hb⟩
theorem BdS.drawn (s:BdS p K w b0 tv fs ov l vs X) (hd:Drawn p K' X Y) (hp:p<w.heap.size):BdS p K' w b0 tv fs ov l vs Y :=
 ⟨Blk.drawn s.tre hd (by omega),Blk.drawn s.res hd (by omega),s.own.drawn s.draw.src hd,s.bat.drawn s.draw.src hd,s.tok,s.fin,s.good,s.nn,s.draw.trans hd⟩
theorem BdS.mono (s:BdS p K w b0 tv fs ov l vs X) (hK:K≤K'):BdS p K' w b0 tv fs ov l vs X:=⟨s.tre,s.res,s.own,s.bat,s.tok,s.fin,s.good,s.nn,s.draw.mono hK⟩
theorem BdI.later (s:BdI p K w b0 tv fs ov l vs b1 qb job ev es us X) (hb:Below X.heap.size X Y):BdI p K w b0 tv fs ov l vs b1 qb job ev es us Y:=⟨s.base.later hb,s.box.later hb s.box.lt,s.evs.later hb,s.egood,s.far⟩
theorem BdI.drawn (s:BdI p K w b0 tv fs ov l vs b1 qb job ev es us X) (hd:Drawn p K' X Y) (hp:p<w.heap.size) (hq:w.heap.size≤qb):BdI p K' w b0 tv fs ov l vs b1 qb job ev es us Y :=
 ⟨s.base.drawn hd hp,Blk.drawn s.box hd (by omega),OwnL.drawn s.evs s.base.draw.src hd (by decide),s.egood,s.far⟩
theorem BdI.mono (s:BdI p K w b0 tv fs ov l vs b1 qb job ev es us X) (hK:K≤K'):BdI p K' w b0 tv fs ov l vs b1 qb job ev es us X:=⟨s.base.mono hK,s.box,s.evs,s.egood,s.far⟩
theorem BdI.turn (s:BdI p K w b0 tv fs ov l vs b1 qb job ev es us X) {v2:Value} {gs:List NodeD} (h:NodesO X b0 v2 gs) (ht:xA gs=true) (hf:yF gs) (hp:p<w.heap.size) (hq:w.heap.size+1<qb):BdI p K w b0 v2 gs ov l vs b1 qb job ev es us (X.setCell ⟨w.heap.size,0,none⟩ v2) :=
 ⟨⟨by have h2:=s.base.tre.set_ 0 v2;simpa using h2,s.base.res.far (p:=⟨w.heap.size,0,none⟩) (show w.heap.size+1≠w.heap.size by omega) v2,h.setBlk s.base.tre (by decide) (by decide),s.base.bat.setBlk s.base.tre (by decide) (by decide) (by decide),ht,hf,s.base.good,s.base.nn,s.base.draw.set (Nat.le_refl _) hp 0 v2⟩,
  s.box.far (p:=⟨w.heap.size,0,none⟩) (show qb≠w.heap.size by omega) v2,s.evs.grownOther s.base.tre (by decide) (by decide) (Own.grown_set _ _ _ _),s.egood,s.far⟩
theorem BdI.snoc (s:BdI p K w b0 tv fs ov l vs b1 qb job ev es us X) (hfr:∀x∈vs,Own.apart x ev) {v ev':Value} {d:EvD} (hsub:Own.SubO X b1 v d.subs) (hap:∀u∈us,Own.apart u v) (hd:yY d)
 (hown:Y.ownsRow b1 55 5 ev' (es.length+1) (Own.flat evK es us++evK.cells d v)) (hg:X.grownBy Y ev.ownBlock) (hp:p<w.heap.size) (hb:w.heap.size+1<b1∧b1≤qb):BdI p K w b0 tv fs ov l vs b1 qb job ev' (es++[d]) (us++[v]) (Y.setCell ⟨qb,1,none⟩ ev'):=by
 have hr:=s.evs.row;have hbx:Blk Y qb 53 #[.int .i64 job,ev]:=s.box.grown hg (fun e=>Own.own_blk_ne hr s.box (by decide) e.symm);have ht:=s.base.tre.grown hg (fun e=>Own.own_blk_ne hr s.base.tre (by decide) e.symm);have hrr:=s.base.res.grown hg (fun e=>Own.own_blk_ne hr s.base.res (by decide) e.symm);have hno:=s.base.own.other hr hg (by decide) (by decide);have hba:=s.base.bat.evGrown ⟨us,s.evs⟩ hg hfr;have hes:=s.evs.snoc hsub hap hown hg (by decide);refine⟨⟨ht.far (p:=⟨qb,1,none⟩) (show w.heap.size≠qb by omega) _,hrr.far (p:=⟨qb,1,none⟩) (show w.heap.size+1≠qb by omega) _,hno.setBlk hbx (by decide) (by decide),?_,s.base.tok,s.base.fin,s.base.good,s.base.nn,(s.base.draw.grown hg (fun g hg'=>by have:=(hr.lt g hg').1;omega) hp).set (show w.heap.size≤qb by omega) hp 1 _⟩,?_,hes.grownOther hbx (by decide) (by decide) (Own.grown_set _ _ _ _),fun e he=>?_,s.far⟩
 · exact hba.setFar hbx (fun e=>by have:=s.far qb e;omega)
 · have:=hbx.set_ 1 ev';simpa using this
 · rcases List.mem_append.1 he with h1 | h1
   · exact s.egood e h1
   · rw[List.mem_singleton]at h1;subst h1;exact hd
theorem BdI.out_ (s:BdI p K w b0 tv fs ov l vs b1 qb job ev es us X) (hfr:∀x∈vs,Own.apart x ev) {ov':Value} (hl:l.length<8) (hes:es.length≤8) (hnn:ov'≠.slice none 0 0)
 (hown:Y.ownsRow w.heap.size 53 2 ov' (l.length+1) (Own.flat batK l vs++[.int .i64 job,ev])) (hg:X.grownBy Y ov.ownBlock) (hp:p<w.heap.size) (hb:w.heap.size≤b1):BdS p K w b0 tv fs ov' (l++[⟨job,es⟩]) (vs++[ev]) Y:=by
 have hr:=s.base.bat.row
 exact⟨s.base.tre.grown hg (fun e=>Own.own_blk_ne hr s.base.tre (by decide) e.symm),s.base.res.grown hg (fun e=>Own.own_blk_ne hr s.base.res (by decide) e.symm),s.base.own.other hr hg (by decide) (by decide),
  s.base.bat.snoc (d:=⟨job,es⟩) (EvsO.base ⟨us,s.evs⟩ hb) hfr hown hg,s.base.tok,s.base.fin,zIN s.base.good hl ⟨hes,s.egood⟩,hnn,s.base.draw.grown hg (fun g hg'=>(hr.lt g hg').1) hp⟩
end
def zJZ (p K b0:Nat) (w:World) (e:Ending) (w':World):Prop:=∃ov l tv fs,e=.returned (.tuple #[ov,.agg #[tv]])∧zEW w' w.heap.size ov l∧ov≠.slice none 0 0∧xH l∧NodesO w' b0 tv fs∧xA fs=true∧yF fs∧Drawn p K w w'
set_option maxRecDepth 100000 in
set_option maxHeartbeats 16000000 in
theorem zGj (p K b0:Nat) (tv0:Value) (fs0:List NodeD) (w:World) (h:SrcR w p K) (hK:K≤68719476736) (hN:NodesO w b0 tv0 fs0) (ht:xA fs0=true) (hf:yF fs0) (hb0:b0≤w.heap.size) :
 Calls Tryz.prog 72 #[.pointer (some ⟨p,0,none⟩),.agg #[tv0]] w (zJZ p (K+400) b0 w):=by
 obtain⟨i0,hi,hz0,hz1,hz2⟩:=info_parts zIk;obtain⟨j0,hbi,hy0,hy1,hy2⟩:=info_parts zDx;have hpw:=h.lt;obtain⟨A0,cap0,rfl,_,_⟩:=hN.reads;obtain⟨WB,hWB⟩:∃WB,WB=((w.alloc (.cells #[.slice A0 fs0.length cap0] 26)).alloc (.cells #[.slice none 0 0] 26)).alloc (.cells #[] 53):=⟨_,rfl⟩;have HS0:Hid (∃vs,BdS p K w b0 (.slice A0 fs0.length cap0) fs0 (.slice (some ⟨w.heap.size+1+1,0,none⟩) 0 0) [] vs WB):=by subst hWB;obtain⟨vs,hb⟩:=zHO (w:=(w.alloc (.cells #[.slice A0 fs0.length cap0] 26)).alloc (.cells #[.slice none 0 0] 26)) (g:=w.heap.size+1+1) (by simp) w.heap.size (by simp;omega);exact⟨vs,xS _ _ _ _,wO _ _ _ _,hN.later (zM0 w _ _ _),hb,ht,hf,zJF,by simp,(Drawn.refl h).later (zM0 w _ _ _)⟩
 obtain⟨vs0,HS0'⟩:=HS0.out;have HS0:=zh HS0';have HK1:=zh (vJ p K 6 WB HS0.out.draw.src (by omega) (by omega));clear h hN ht hf HS0';go_enter Tryz.func72,Tryz.ntmps72;go_wp2_with fail;rw[←hWB];clear hWB;refine HK1.out.mono ?_;rintro e w1 ⟨x,rfl,hx,hd⟩;have HS1:=zh (HS0.out.drawn hd hpw);have hx5:x≤5:=by omega
 clear hd HS0 HK1 hx;go_wp2_with fail;go_loopw [6,7] (fun ov kv wr=>∃(k:Nat) (tv:Value) (fs:List NodeD) (l:List BatD) (vs:List Value),kv=.int .i64 k∧k+l.length≤5∧Hid (BdS p (K+2+70*l.length) w b0 tv fs ov l vs wr)) (fun _ kv _=>(intOf kv).toNat);case atStart=>exact⟨x,_,_,[],_,rfl,by simpa using hx5,HS1.out.mono (by simp)⟩
 case round =>
  obtain⟨k,tv,fs,l,vs,rfl,hk,HS⟩:=hrel;clear HS1;obtain⟨wo,hwo⟩:∃wo,wo=wr:=⟨_,rfl⟩;subst hwo;have hwo:=HS.out.draw.chg.size;have hwz:=HS.out.res.lt;obtain⟨OA,ocap,rfl,_,_⟩:=Own.own_slice HS.out.bat.row;obtain⟨A,cap,rfl,hcap,_⟩:=HS.out.own.reads;generalize hm0:l.length=m0 at *;have HM0:=zh hm0;clear hm0;generalize hKK:K+2+70*m0=KK at *;have hK2:KK+70≤K+2+70*(m0+1):=by omega
  have hKb:KK≤137438953000:=by omega
  have hKc:KK≤K+400:=by omega
  clear hKK;by_cases hk0:0<k
  · have HK2:=zh (vJ p KK 4 wo HS.out.draw.src (by omega) (by omega));go_wp2_with fail;refine HK2.out.mono ?_;rintro e w2 ⟨y,rfl,hy,hd⟩;have hy3:y≤3:=by omega
    have HS2:=zh (HS.out.drawn hd hpw);have hw2:=hd.chg.size;clear hd HK2 hy;obtain⟨WX,hWX⟩:∃WX,WX=w2.alloc (.cells #[.int .i64 (1+(y:Int)),.slice none 0 0] 53):=⟨_,rfl⟩;have HI0:Hid (BdI p (KK+2) w b0 (.slice A fs.length cap) fs (.slice OA m0 ocap) l vs wo.heap.size w2.heap.size (1+(y:Int)) (.slice none 0 0) [] [] WX):=by subst hWX;exact⟨HS2.out.later (Below.new _ _),heap_alloc_new _ _,Own.OwnL.nil _ _ _,fun e he=>(by cases he),fun g hg=>(HS.out.bat.row.lt g hg).2⟩
    have HFR:Hid (∀ev es us X,Own.OwnL evK X wo.heap.size 55 ev es us→∀x∈vs,Own.apart x ev):=fun ev es us X h=>HS.out.bat.fresh ⟨us,h⟩ (Nat.le_refl _);have HK3:=zh (vJ p (KK+2) 4 WX HI0.out.base.draw.src (by omega) (by omega));clear HS2 HS;go_wp2_with fail;rw[←hWX];clear hWX;generalize hqb:w2.heap.size=qb at *;have hqw:w.heap.size+1<wo.heap.size∧wo.heap.size≤qb:=⟨hwz,by omega⟩;clear hqb;refine HK3.out.mono ?_;rintro e w3 ⟨z,rfl,hz,hd⟩;have hz3:z≤3:=by omega
    have HI1:=zh (HI0.out.drawn hd hpw (by omega));clear hd HI0 HK3 hz;go_wp2_with fail;go_loopw [9] (fun jv wx=>∃(j:Nat) (tv:Value) (fs:List NodeD) (ev:Value) (es:List EvD) (us:List Value),jv=.int .i64 j∧j+es.length≤4∧Hid (BdI p (KK+4+16*(4-j)) w b0 tv fs (.slice OA m0 ocap) l vs wo.heap.size qb (1+(y:Int)) ev es us wx)) (fun jv _=>(intOf jv).toNat);case atStart=>exact⟨z+1,_,_,_,[],[],by go_num,by simp;omega,HI1.out.mono (by omega)⟩
    case round =>
     obtain⟨j,tv,fs,ev,es,us,rfl,hj,HI⟩:=hrel;clear HI1;obtain⟨A,cap,rfl,hcap,hNN⟩:=HI.out.base.own.reads;obtain⟨EA,ecap,rfl,_,_,_⟩:=Own.own_slice HI.out.evs.row;generalize hm:es.length=m at *;have HM:=zh hm;clear hm;have hwr:=HI.out.base.draw.chg.size;have t0:=HI.out.base.tre.cell 0;have tz:=HI.out.base.tre.lt;simp at t0;by_cases hj0:0<j
     · have hK3:KK+4+16*(4-j)+16≤KK+4+16*(4-(j-1)):=by omega
       have hK4:KK+4+16*(4-j)≤137438953472:=by omega
       generalize KK+4+16*(4-j)=KJ at *;have HKN:=zh (zGl p KJ A fs.length cap fs wr HI.out.base.draw.src hK4 hNN HI.out.base.tok HI.out.base.fin);have hji:(0:Int)<(j:Int):=by omega
       clear hNN;go_wp2_with fail;refine HKN.out.mono ?_;rintro e w4 ⟨v,d,rfl,hsub,hgd,hturn,hd4⟩;obtain⟨SA,scap,rfl,hscap,_⟩:=hsub.strs;have HI4:=zh (HI.out.drawn hd4 hpw (by omega));have HSUB4:=zh (Own.own_base hsub (show wo.heap.size≤wr.heap.size from by have:=HI.out.box.lt;omega));have HAP:=zh (HI.out.evs.fresh hsub (Nat.le_refl _));have HGD:=zh hgd;have HTU:=zh hturn;clear hd4 hgd hturn hsub HKN t0 tz;obtain⟨WE,hWE⟩:∃WE,WE=w4.alloc (.cells #[.int .i64 d.kind,.string d.name,.slice SA d.subs.length scap,.string d.val,.int .i64 d.n] 55):=⟨_,rfl⟩;have HQE:Hid (Blk WE w4.heap.size 55 #[.int .i64 d.kind,.string d.name,.slice SA d.subs.length scap,.string d.val,.int .i64 d.n]):=by subst hWE;exact heap_alloc_new _ _
       have HIE:Hid (BdI p (KJ+16) w b0 (.slice A fs.length cap) fs (.slice OA m0 ocap) l vs wo.heap.size qb (1+(y:Int)) (.slice EA m ecap) es us WE):=by subst hWE;exact HI4.out.later (Below.new _ _)
       have HSUBE:Hid (Own.SubO WE wo.heap.size (.slice SA d.subs.length scap) d.subs):=by subst hWE;exact yK HSUB4.out (Below.new _ _)
       have HER:Hid (∀W,Below WE.heap.size WE W→EvR W W.heap.size (.int .i64 d.kind) (.string d.name) (.slice SA d.subs.length scap) (.string d.val) (.int .i64 d.n) d):=fun W hW=>by obtain⟨A',c',e',_,hs⟩:=Own.SubO.strs (Own.own_later HSUBE.out hW);injection e' with e1 e2 e3;subst e1 e3;exact⟨rfl,rfl,⟨_,_,_,rfl,hs,hscap⟩,rfl,rfl⟩
       have HES:Hid (∀W,Below WE.heap.size WE W→W.cell? ⟨w4.heap.size,0,none⟩=some (.int .i64 d.kind)∧W.cell? ⟨w4.heap.size,1,none⟩=some (.string d.name)∧W.cell? ⟨w4.heap.size,2,none⟩=some (.slice SA d.subs.length scap)∧W.cell? ⟨w4.heap.size,3,none⟩=some (.string d.val)∧W.cell? ⟨w4.heap.size,4,none⟩=some (.int .i64 d.n)):=fun W hW=>⟨(HQE.out.later hW HQE.out.lt).at 0 rfl,(HQE.out.later hW HQE.out.lt).at 1 rfl,(HQE.out.later hW HQE.out.lt).at 2 rfl,(HQE.out.later hW HQE.out.lt).at 3 rfl,(HQE.out.later hW HQE.out.lt).at 4 rfl⟩;have HKT:=zh (zAh _ _ _ _ _ d WE (HER.out _ (Below.refl _ _)));have hw4:w.heap.size+1<w4.heap.size:=by have:=HI4.out.box.lt;omega
       obtain⟨e0,e1,e2,e3,e4⟩:=HES.out _ (Below.refl _ _);clear HI4 HSUB4 HI;go_wp2_with fail;rw[←hWE];clear hWE;refine HKT.out.mono ?_;rintro e w5 ⟨rfl,hb5⟩;have HB5:=zh hb5;have HI5:=zh (HIE.out.later hb5);have HSUB:=zh (yK HSUBE.out hb5);clear hb5 HIE HSUBE HKT e0 e1 e2 e3 e4;obtain⟨e0,e1,e2,e3,e4⟩:=HES.out _ HB5.out;have htb:uB d=true∨uB d=false:=by cases uB d <;> simp
       generalize uB d=tb at *;have t0:=HI5.out.base.tre.cell 0;have tz:=HI5.out.base.tre.lt;simp at t0;cases tb
       case false =>
        have HOWN:Hid ((w5.alloc (.cells #[.int .i64 d.kind,.string d.name,.slice SA d.subs.length scap,.string d.val,.int .i64 d.n] 55)).ownsRow wo.heap.size 55 5 (.slice EA m ecap) m (Own.flat evK es us)):=by have h:=Own.own_later HI5.out.evs.row (Below.new _ (.cells #[.int .i64 d.kind,.string d.name,.slice SA d.subs.length scap,.string d.val,.int .i64 d.n] 55));rw[HM.out]at h;exact h
        have HA:=zh (HI5.out.later (Below.new _ (.cells #[.int .i64 d.kind,.string d.name,.slice SA d.subs.length scap,.string d.val,.int .i64 d.n] 55)));have HSB:=zh (yK HSUB.out (Below.new _ (.cells #[.int .i64 d.kind,.string d.name,.slice SA d.subs.length scap,.string d.val,.int .i64 d.n] 55)));have z1:=HI5.out.box.cell 1;have zz:=HA.out.box.lt;have zf:=HA.out.box.frozen 1;simp at z1;go_wp2_with (at_builtin;refine wpList_append_own _ rfl (.tmp 46) (.tmp 48) 51 rfl wo.heap.size 55 i0 _ 5 72 Tryz.underlying51 hi hz0 hz1 hz2 rfl (by decide) _ m _ rfl HOWN.out ⟨_,0,none⟩ 1 1 (evK.cells d (.slice SA d.subs.length scap)) rfl rfl ?c1a ?c2a ?c3a ?c4a ?c5a ?_);case c1a=>exact zDK (cs:=#[.int .i64 d.kind,.string d.name,.slice SA d.subs.length scap,.string d.val,.int .i64 d.n]) (by simp)
        case c2a=>simp[evK,Value.oneCell']
        case c3a=>unfold maxLen;omega
        case c4a=>omega
        case c5a=>exact Nat.le_trans hqw.2 (Nat.le_of_lt zz)
        intro v9 w9 hown5 hg5 _;obtain⟨A9,cap9,rfl,_,_,_⟩:=Own.own_slice hown5;have HN:=zh (HA.out.snoc (HFR.out _ _ _ _ HA.out.evs) HSB.out HAP.out HGD.out (by rw[HM.out];exact hown5) hg5 hpw (by omega));have yz:=(HA.out.box.grown hg5 (fun e=>Own.own_blk_ne HOWN.out HA.out.box (by decide) e.symm));have y1:=yz.cell 1;have yf:=yz.frozen 1;have yl:=yz.lt;simp at y1;clear hown5 hg5 z1 zz zf yz;go_wp2_with fail;go_roundw;case rel=>exact⟨j-1,_,_,_,_,_,by go_num,by rw[List.length_append,HM.out];simp;omega,HN.out.mono (by omega)⟩
        case measure=>simp[intOf];omega
       case true =>
        have HKL:=zh (zCu A fs.length cap fs _ _ _ _ _ d w5 (by obtain⟨A',c',e',_,hs⟩:=HI5.out.base.own.reads;injection e' with x1 x2 x3;subst x1 x3;exact hs) hcap (zC0 HI5.out.base.tok) (HER.out _ HB5.out) HGD.out.1.1);have HTG:Hid ((uJ fs (yG d)).1=0→xA (uJ fs (yG d)).2=true∧yF (uJ fs (yG d)).2):=fun h0=>⟨zDH h0,zHB HI5.out.base.fin (HTU.out rfl) HGD.out.1.2⟩;generalize uJ fs (yG d)=DD at *;obtain⟨code,gs⟩:=DD;dsimp only at HTG;go_wp2_with fail;refine HKL.out.mono ?_;rintro e w6 ⟨v2,rfl,hn6,hb6⟩;obtain⟨A2,cap2,rfl,hcap2,_⟩:=hn6.reads;have hw5:=HB5.out.size;have hwe:=HQE.out.lt;have HB6:=zh (HB5.out.later hb6);have HN6:=zh (hn6.base (show b0≤w5.heap.size by omega));have HI6:=zh (HI5.out.later hb6);have HSUB6:=zh (yK HSUB.out hb6);clear hb6 hn6 HKL HI5 HSUB e0 e1 e2 e3 e4 t0 tz;obtain⟨WT,hWT⟩:∃WT,WT=w6.alloc (.cells #[.slice A2 gs.length cap2] 26):=⟨_,rfl⟩;have HQT:Hid (Blk WT w6.heap.size 26 #[.slice A2 gs.length cap2]):=by subst hWT;exact heap_alloc_new _ _
        have HBT:Hid (Below WE.heap.size WE WT):=by subst hWT;exact HB6.out.later (Below.new _ _)
        have HIT:Hid (BdI p (KJ+16) w b0 (.slice A fs.length cap) fs (.slice OA m0 ocap) l vs wo.heap.size qb (1+(y:Int)) (.slice EA m ecap) es us WT):=by subst hWT;exact HI6.out.later (Below.new _ _)
        have HNT:Hid (NodesO WT b0 (.slice A2 gs.length cap2) gs):=by subst hWT;exact HN6.out.later (Below.new _ _)
        have HSUBT:Hid (Own.SubO WT wo.heap.size (.slice SA d.subs.length scap) d.subs):=by subst hWT;exact yK HSUB6.out (Below.new _ _)
        clear HI6 HN6 HSUB6;by_cases hc0:code=0
        case neg =>
         have hcn:(code != (0:Int))=true:=by simpa using hc0
         go_wp2_with fail;rw[←hWT];clear hWT;go_roundw;case rel=>exact⟨j-1,_,_,_,es,us,by go_num,by rw[HM.out];omega,HIT.out.mono (by omega)⟩
         case measure=>simp[intOf];omega
        obtain⟨htg,hfg⟩:=HTG.out hc0;subst hc0;have HI7:=zh (HIT.out.turn HNT.out htg hfg hpw (by omega));have HSUB:=zh (Own.SubO.setBlk (i:=0) (u:=.slice A2 gs.length cap2) HSUBT.out HIT.out.base.tre (by decide));have HB7:=zh (HBT.out.size);have p0:=HQT.out.cell 0;have t0:=HIT.out.base.tre.cell 0;have tz:=HIT.out.base.tre.lt;have tf:=HIT.out.base.tre.frozen 0;simp at p0 t0;have p1:(w6.alloc (.cells #[.slice A2 gs.length cap2] 26)).cell? ⟨w6.heap.size,0,none⟩=some (.slice A2 gs.length cap2):=by rw[←hWT];exact p0
        obtain⟨e0,e1,e2,e3,e4⟩:=HES.out _ HBT.out;have hn4:¬w4.heap.size=w.heap.size:=by omega
        have hn4':¬w.heap.size=w4.heap.size:=by omega
        have hnq:¬qb=w.heap.size:=by omega
        have hnq':¬w.heap.size=qb:=by omega
        clear htg hfg;subst hWT;have HOWN:Hid ((((w6.alloc (.cells #[.slice A2 gs.length cap2] 26)).setCell ⟨w.heap.size,0,none⟩ (.slice A2 gs.length cap2)).alloc (.cells #[.int .i64 d.kind,.string d.name,.slice SA d.subs.length scap,.string d.val,.int .i64 d.n] 55)).ownsRow wo.heap.size 55 5 (.slice EA m ecap) m (Own.flat evK es us)):=by have h:=Own.own_later HI7.out.evs.row (Below.new _ (.cells #[.int .i64 d.kind,.string d.name,.slice SA d.subs.length scap,.string d.val,.int .i64 d.n] 55));rw[HM.out]at h;exact h
        have HA:=zh (HI7.out.later (Below.new _ (.cells #[.int .i64 d.kind,.string d.name,.slice SA d.subs.length scap,.string d.val,.int .i64 d.n] 55)));have HSB:=zh (yK HSUB.out (Below.new _ (.cells #[.int .i64 d.kind,.string d.name,.slice SA d.subs.length scap,.string d.val,.int .i64 d.n] 55)));have z1:=HIT.out.box.cell 1;have zz:=HA.out.box.lt;have zf:=HA.out.box.frozen 1;simp at z1;go_wp2_with (at_builtin;refine wpList_append_own _ rfl (.tmp 46) (.tmp 48) 51 rfl wo.heap.size 55 i0 _ 5 72 Tryz.underlying51 hi hz0 hz1 hz2 rfl (by decide) _ m _ rfl HOWN.out ⟨_,0,none⟩ 1 1 (evK.cells d (.slice SA d.subs.length scap)) rfl rfl ?c1b ?c2b ?c3b ?c4b ?c5b ?_);case c1b=>exact zDK (cs:=#[.int .i64 d.kind,.string d.name,.slice SA d.subs.length scap,.string d.val,.int .i64 d.n]) (by simp)
        case c2b=>simp[evK,Value.oneCell']
        case c3b=>unfold maxLen;omega
        case c4b=>omega
        case c5b=>exact Nat.le_trans hqw.2 (Nat.le_of_lt zz)
        intro v9 w9 hown5 hg5 _;obtain⟨A9,cap9,rfl,_,_,_⟩:=Own.own_slice hown5;have HN:=zh (HA.out.snoc (HFR.out _ _ _ _ HA.out.evs) HSB.out HAP.out HGD.out (by rw[HM.out];exact hown5) hg5 hpw (by omega));have yz:=(HA.out.box.grown hg5 (fun e=>Own.own_blk_ne HOWN.out HA.out.box (by decide) e.symm));have y1:=yz.cell 1;have yf:=yz.frozen 1;have yl:=yz.lt;simp at y1;clear hown5 hg5 z1 zz zf yz;go_wp2_with fail;go_roundw;case rel=>exact⟨j-1,_,_,_,_,_,by go_num,by rw[List.length_append,HM.out];simp;omega,HN.out.mono (by omega)⟩
        case measure=>simp[intOf];omega
     · obtain rfl:j=0:=by omega
       have z0:=HI.out.box.cell 0;have z1:=HI.out.box.cell 1;simp at z0 z1;have HA2:=zh (HI.out.later (Below.new _ (.cells #[.int .i64 (1+(y:Int)),.slice EA m ecap] 53)));have HOWN2:Hid ((wr.alloc (.cells #[.int .i64 (1+(y:Int)),.slice EA m ecap] 53)).ownsRow w.heap.size 53 2 (.slice OA m0 ocap) m0 (Own.flat batK l vs)):=by have h:=HA2.out.base.bat.row;rw[HM0.out]at h;exact h
       go_wp2_with (at_builtin;go_loud (refine wpList_append_own _ rfl (.tmp 51) (.tmp 53) 43 rfl w.heap.size 53 j0 _ 2 32 Tryz.underlying43 hbi hy0 hy1 hy2 rfl (by decide) _ m0 _ rfl HOWN2.out ⟨_,0,none⟩ 1 1 [.int .i64 (1+(y:Int)),.slice EA m ecap] rfl rfl ?d1 ?d2 ?d3 ?d4 ?d5 ?_));case d1=>exact uL _ #[.int .i64 (1+(y:Int)),.slice EA m ecap] _
       case d2=>simp[Value.oneCell']
       case d3=>unfold maxLen;omega
       case d4=>omega
       case d5=>simp;omega
       intro v6 w6 hown6 hg6 hnn6;have HO:=zh (HA2.out.out_ (HFR.out _ _ _ _ HA2.out.evs) (ov':=v6) (by rw[HM0.out];omega) (by rw[HM.out];omega) (by simpa using hnn6) (by rw[HM0.out];exact hown6) hg6 hpw (by omega));clear hown6 hg6 hnn6 z0 z1;go_wp2_with fail;go_roundw;case rel=>exact⟨k-1,_,_,l++[BatD.mk (1+(y:Int)) es],_,by go_num,by rw[List.length_append,HM0.out];simp;omega,HO.out.mono (by rw[List.length_append,HM0.out];simp;omega)⟩
       case measure=>simp[intOf];omega
  · obtain rfl:k=0:=by omega
    have t0:=HS.out.tre.cell 0;have tz:=HS.out.tre.lt;have r0:=HS.out.res.cell 0;have rz:=HS.out.res.lt;have rf:=HS.out.res.frozen 0;simp at t0 r0;go_wp2_with fail
    go_region
    go_wp2_with fail;refine bodyPost_ret (v:=.tuple #[.slice OA m0 ocap,.agg #[.slice A fs.length cap]]) (by simp[results,Tryz.results72,go_sem,r0]) rfl ?_;exact⟨_,l,_,fs,rfl,⟨vs,(HS.out.bat.setBlk HS.out.res (by decide) (by decide) (by decide)).later (Below.refl _ _).drew⟩,HS.out.nn,HS.out.good,(HS.out.own.setBlk HS.out.res (by decide) (by decide)).later (Below.refl _ _).drew,HS.out.tok,HS.out.fin,((HS.out.draw.set (show w.heap.size≤w.heap.size+1 by omega) hpw 0 _).mono hKc).later (Below.refl _ _).drew⟩
end Go.Proofs.YtgmaamnofhmecaaGreatDoor
