import Derived.Test.YtgmaamnofhmecaaGreatDoorY39
import Derived.Test.YtgmaamnofhmecaaGreatDoorY47
import Derived.Test.YtgmaamnofhmecaaGreatDoorY42
import Derived.Test.YtgmaamnofhmecaaGreatDoorY48
set_option linter.unusedSimpArgs false
open Go.Lib renaming hid → zh
open List renaming getElem_cons_succ → zE, getElem_cons_zero → zF, getElem_toArray → zD, setIfInBounds_toArray → zA, set_cons_succ → zC, set_cons_zero → zB
namespace Go.Proofs.YtgmaamnofhmecaaGreatDoor
open Go.RowKit
set_option linter.unusedVariables false
theorem zEJ:∀(l:List BatD) (vs:List Value) (k:Nat) (u:Value),vs.length=l.length→k<l.length→(Own.flat batK l vs).set (k*2+1) u=Own.flat batK l (vs.set k u)
 | d::r,v::s,0,u,_,_=>by simp[Own.flat,batK]
 | d::r,v::s,k+1,u,h,hk=>by
   have ih:=zEJ r s k u (by simpa using h) (by simpa using hk);rw[zC,Own.flat,Own.flat,←ih];have e:(k+1)*2+1=(k*2+1)+2:=by omega
   rw[e];simp[batK]
 | [],_,_,_,_,h=>by simp at h
 | _::_,[],_,_,h,_=>by simp at h
theorem zHJ {W:World} {b0 b1 b2 gb cb gv cv k:Nat} {v:Value} {l:List BatD} {vs us:List Value} {es:List EvD} (hB:BatsL W b0 v l vs) (hk:k<l.length) (hou:Own.OwnL evK W b0 55 (vs.getD k (.slice none 0 0)) (l.getD k default).evs us)
 (hlen:es.length=(l.getD k default).evs.length) (hsub:∀i,(es.getD i default).subs=((l.getD k default).evs.getD i default).subs)
 (hev:W.ownsRow b2 55 5 (.slice (some ⟨gv,0,none⟩) es.length cv) es.length (Own.flat evK es us))
 (hrow:W.ownsRow b1 53 2 (.slice (some ⟨gb,0,none⟩) l.length cb) l.length (Own.flat batK l (vs.set k (.slice (some ⟨gv,0,none⟩) es.length cv)))) :
 Bats W W.heap.size (some ⟨gb,0,none⟩) l.length (l.set k ⟨(l.getD k default).job,es⟩):=by
 have hE:EvsO W (min b0 b2) (.slice (some ⟨gv,0,none⟩) es.length cv) es:=⟨us,by rw[hlen];exact hou.len,Own.own_base hev (Nat.min_le_right _ _),fun i hi=>by
  have h1:=hou.subs i (by rw[←hlen];exact hi);have h2:evK.subs (es.getD i default)=evK.subs ((l.getD k default).evs.getD i default):=hsub i;rw[h2]
  exact Own.own_base h1 (Nat.min_le_left _ _),hou.aprt⟩
 have hvl:(vs.set k (.slice (some ⟨gv,0,none⟩) es.length cv)).length=l.length:=by rw[List.length_set];exact hB.len
 refine⟨by rw[List.length_set],fun hn=>⟨gb,0,rfl,(hrow.lt gb rfl).2,fun i hi=>?_⟩⟩;have c0:=(hrow.cellAt (i*2+0) (by omega)).trans (Own.flat_at batK l _ i 0 hvl hi (by decide));have c1:=(hrow.cellAt (i*2+1) (by omega)).trans (Own.flat_at batK l _ i 1 hvl hi (by decide));rw[Own.getD_set_ _ _ _ _ _ (by rw[hB.len];exact hk)]at c0 c1;rw[Own.getD_set_ _ _ _ _ _ hk];by_cases e:k=i
 · subst e;rw[if_pos rfl]at c0 c1 ⊢;obtain⟨A1,cap1,e1,hc1,hs1⟩:=hE.reads;refine⟨_,_,by rw[Nat.zero_add];exact c0,by rw[Nat.zero_add];exact c1,rfl,A1,_,cap1,e1,hs1,hc1⟩
 · rw[if_neg e]at c0 c1 ⊢;obtain⟨A1,cap1,e1,hc1,hs1⟩:=(hB.evs i hi).reads;refine⟨_,_,by rw[Nat.zero_add];exact c0,by rw[Nat.zero_add];exact c1,rfl,A1,_,cap1,e1,hs1,hc1⟩
theorem OwnL.oneE {w:World} {base:Nat} {v u:Value} {l:List EvD} {vs:List Value} (h:Own.OwnL evK w base 55 v l vs) (hu:u∈Own.flat evK l vs):u.oneCell'=true:=by
 obtain⟨i,hi,rfl⟩:=List.getElem_of_mem hu;have hlen:=Own.flat_len evK l vs h.len;have hi':i<l.length*5:=by rw[hlen]at hi;exact hi
 have h1:=Own.flat_at evK l vs (i / 5) (i % 5) h.len (by omega) (Nat.mod_lt _ (by decide));rw[show i / 5*evK.size+i % 5=i from by have:evK.size=5:=rfl;rw[this];omega,List.getElem?_eq_getElem hi]at h1;obtain⟨A1,cap1,e1,_⟩:=Own.SubO.strs (h.subs (i / 5) (by omega));rw[e1]at h1;have h2:i % 5=0∨i % 5=1∨i % 5=2∨i % 5=3∨i % 5=4:=by omega
 generalize (Own.flat evK l vs)[i]=u at *;rcases h2 with h2 | h2 | h2 | h2 | h2
 · rw[h2]at h1;have h3:u=.int .i64 _:=Option.some.inj h1;rw[h3];rfl
 · rw[h2]at h1;have h3:u=.string _:=Option.some.inj h1;rw[h3];rfl
 · rw[h2]at h1;have h3:u=.slice _ _ _:=Option.some.inj h1;rw[h3];rfl
 · rw[h2]at h1;have h3:u=.string _:=Option.some.inj h1;rw[h3];rfl
 · rw[h2]at h1;have h3:u=.int .i64 _:=Option.some.inj h1;rw[h3];rfl
theorem zFZ {w:World} {base e size g n cap n':Nat} {xs:List Value} (h:w.ownsRow base e size (.slice (some ⟨g,0,none⟩) n cap) n' xs) (hg:(Value.slice (some ⟨g,0,none⟩) n cap).ownBlock=some g):∃cs,Blk w g e cs:=by
 rcases h.2 with ⟨h',_⟩ | ⟨g',cap',cur,h',_,hh,_⟩
 · simp at h'
 · injection h' with h1;injection h1 with h1;injection h1 with h1;subst h1;exact⟨cur,hh⟩
theorem zFS {w:World} {base e size g n cap:Nat} {xs:List Value} (h:w.ownsRow base e size (.slice (some ⟨g,0,none⟩) n cap) n xs):∀j u,xs[j]?=some u→w.cell? ((⟨g,0,none⟩:Addr).add j)=some u:=h.cells rfl
theorem zEv {w:World} {base e size g n cap:Nat} {xs:List Value} (h:w.ownsRow base e size (.slice (some ⟨g,0,none⟩) n cap) n xs):∀j u,xs[j]?=some u→w.cell? ⟨g,j,none⟩=some u:=fun j u hu =>
 (h.cellAt j (by rw[←h.1];exact(List.getElem?_eq_some_iff.1 hu).1)).trans hu
theorem zKP {l:List BatD} {k j:Nat} {N:Int} (h:xH l) (hk:k<l.length) (hj:j<(l.getD k default).evs.length):xH (l.set k ⟨(l.getD k default).job,(l.getD k default).evs.set j { (l.getD k default).evs.getD j default with n:=N }⟩) :=
 zDD h ⟨by rw[List.length_set];exact(yW h hk).1,fun x hx=>by
  rcases List.mem_or_eq_of_mem_set hx with h1 | h1
  · exact(yW h hk).2 x h1
  · subst h1;obtain⟨⟨a,b⟩,c⟩:=(yW h hk).2 _ (uC _ j hj)
    exact⟨⟨⟨a.1,a.2.1,a.2.2⟩,b⟩,c.1,c.2⟩⟩
theorem zJj {es:List EvD} {j:Nat} {N:Int} (hj:j<es.length) (i:Nat):((es.set j { es.getD j default with n:=N }).getD i default).subs=(es.getD i default).subs:=by
 rw[Own.getD_set_ _ _ _ _ _ hj];by_cases e:j=i
 · subst e;rw[if_pos rfl]
 · rw[if_neg e]
set_option maxRecDepth 100000 in
set_option maxHeartbeats 40000000 in
theorem zIO (A:Option Addr) (n c:Nat) (A':Option Addr) (n' c':Nat) (w:World) (htab:uG w) (h:BytesR w w.heap.size A n) (hn:n≤9223372036854775807) (h':BytesR w w.heap.size A' n') (hn':n'≤9223372036854775807) :
 Calls Tryz.prog 5 #[.slice A n c,.slice A' n' c'] w fun e w'=>e=.returned (.bool true)∧Below w.heap.size w w':=by
 obtain⟨i0,hi,hz0,hz1,hz2⟩:=info_parts zIk;obtain⟨j0,hbi,hy0,hy1,hy2⟩:=info_parts zDx;have HK1:=zh (zHH A n c A' n' c' w hn hn');by_cases hbig:(decide (1048576<n)||decide (1048576<n'))=true
 · rw[hbig]at HK1;clear h htab h';go_enter Tryz.func5,Tryz.ntmps5;go_wp2_with fail;refine HK1.out.mono ?_;rintro e w1 ⟨rfl,rfl⟩;go_wp2_with fail;go_ret;exact⟨rfl,Below.refl _ _⟩
 rw[Bool.not_eq_true]at hbig;rw[hbig]at HK1;have hn6:n≤1048576:=by simp at hbig;omega
 have HK2:=zh (zCk A n c w h hn6);have HTB:=zh htab;have HMO:Hid (∀W,Below w.heap.size w W→BytesR W W.heap.size A' n'):=fun W hW=>BytesR.laterS h' hW;clear h htab h' hbig;go_enter Tryz.func5,Tryz.ntmps5;go_wp2_with fail;refine HK1.out.mono ?_;rintro e w1 ⟨rfl,rfl⟩;go_wp2_with fail;refine HK2.out.mono ?_;rintro e w1 ⟨tv,fs,ov,l,gv,gs,rfl,hT,htr,hfi,hB,hnn,hgd,hG,hgr,hgf,hb1⟩;obtain⟨A1,cap1,rfl,hcap1,hN⟩:=hT.reads;obtain⟨A2,cap2,rfl,hcap2,hM⟩:=hG.reads;obtain⟨vs,hB⟩:=hB;obtain⟨g3,cap3,rfl,hcap3,hBt⟩:=hB.some_ hnn;obtain⟨hok,hce⟩:=zFr hgd;have hl8:=hgd.1;have hts:=zC0 htr;have hgs:=zC0 hgr;have hcl:=zDG hfi;obtain⟨WX,hWX⟩:∃WX,WX=(w1.alloc (.cells #[.slice A1 fs.length cap1] 26)).alloc (.cells #[.slice A2 gs.length cap2] 26):=⟨_,rfl⟩;have HBX:Hid (Below w1.heap.size w1 WX):=by subst hWX;exact(Below.new _ _).later (Below.new _ _)
 have HX0:Hid (Blk WX w1.heap.size 26 #[.slice A1 fs.length cap1]):=by subst hWX;exact uD _ _ _
 have HX1:Hid (Blk WX (w1.heap.size+1) 26 #[.slice A2 gs.length cap2]):=by subst hWX;exact xD _ _ _
 have HS1:Hid (∀W',Below WX.heap.size WX W'→(W'.cell? ⟨w1.heap.size,0,none⟩=some (.slice A1 fs.length cap1)∧W'.cell? ⟨w1.heap.size+1,0,none⟩=some (.slice A2 gs.length cap2))):=fun W' hW=>⟨(HX0.out.later hW HX0.out.lt).at 0 rfl,(HX1.out.later hW HX1.out.lt).at 0 rfl⟩;have HNX:Hid (∀W,Below WX.heap.size WX W→Nodes W W.heap.size A1 fs.length fs):=fun W hW=>hN.later (HBX.out.later hW);have HMX:Hid (∀W,Below WX.heap.size WX W→Nodes W W.heap.size A2 gs.length gs):=fun W hW=>hM.later (HBX.out.later hW);have HLX:Hid (∀W,Below WX.heap.size WX W→Bats W W.heap.size (some ⟨g3,0,none⟩) l.length l):=fun W hW=>hBt.later (HBX.out.later hW);have HBW:Hid (Below w.heap.size w WX):=hb1.later HBX.out;have HTT:Hid (∀W,Below WX.heap.size WX W→uG W):=fun W hW=>wA HTB.out (HBW.out.later hW);have HKI:=zh (fun W (hW:Below WX.heap.size WX W)=>zBP A1 fs.length cap1 (some ⟨g3,0,none⟩) l.length cap3 A2 gs.length cap2 fs l gs W (HTT.out W hW) (HNX.out W hW) hts hcl (HLX.out W hW) hok hce (HMX.out W hW) hgs);have HKS:=zh (fun W (hW:Below WX.heap.size WX W)=>zBZ A1 fs.length cap1 (some ⟨g3,0,none⟩) l.length cap3 A2 gs.length cap2 fs l gs W (HNX.out W hW) hcap1 hts hcl (HLX.out W hW) hok hce (HMX.out W hW) hgs);have HBL:Hid (∀W,Below WX.heap.size WX W→BatsL W w.heap.size (.slice (some ⟨g3,0,none⟩) l.length cap3) l vs):=fun W hW=>hB.later (HBX.out.later hW);have HGD:=zh hgd;have HBE:=zh (fun k j N (h1:serB fs l gs=true) (h2:k<l.length) h3 h4 h5=>zJr (fs:=fs) (l:=l) (gs:=gs) (k:=k) (i:=j) (N:=N) h1 h2 h3 h4 h5);have HKN:=zh (fun (L4:Option Addr) q4 l4 W (hW:Below WX.heap.size WX W) (hL4:Bats W W.heap.size L4 l.length l4) (hg4:xH l4)=>zBP A1 fs.length cap1 L4 l.length q4 A2 gs.length cap2 fs l4 gs W (HTT.out W hW) (HNX.out W hW) hts hcl hL4 (zFr hg4).1 (zFr hg4).2 (HMX.out W hW) hgs);clear hN hM hBt hT hG hB hb1 HTB hok hce htr hgr hgf hfi hgd hnn hcl hts;obtain⟨z0,z1⟩:=HS1.out _ (Below.refl _ _);go_wp2_with fail;rw[←hWX];clear hWX;refine(HKS.out _ (Below.refl _ _)).mono ?_;rintro e w2 ⟨rfl,hb2⟩;have HB2:=zh hb2;clear hb2 z0 z1;generalize hso:serB fs l gs=so at *;cases so
 case false =>
  obtain⟨z0,z1⟩:=HS1.out _ HB2.out;go_wp2_with fail
  go_region_held3 (fun W'=>(W'.cell? ⟨w1.heap.size,0,none⟩=some (.slice A1 fs.length cap1)∧W'.cell? ⟨w1.heap.size+1,0,none⟩=some (.slice A2 gs.length cap2)))
   (first | exact HS1.out _ HB2.out.drew | exact HS1.out _ HBA.out | exact HS1.out _ HBB.out)
   (first
     | (go_at_call 21;refine(HKI.out _ HB2.out.drew).mono ?_;rintro e wa ⟨rfl,hba⟩;have HBA:=zh (HB2.out.later (zD0 hba));clear hba)
     | (go_at_call 22;refine(HKS.out _ HBA.out).mono ?_;rintro e wb ⟨rfl,hbb⟩;have HBB:=zh (HBA.out.later hbb);clear hbb))
  all_goals
   go_wp2_with fail;go_ret;exact⟨zA0 (by simp),HBW.out.later HBB.out⟩
 clear hso;by_cases hl0:l.length=0
 · obtain rfl:l=[]:=List.eq_nil_of_length_eq_zero hl0;clear HBE HKN HBL HLX HGD;obtain⟨z0,z1⟩:=HS1.out _ HB2.out;go_wp2_with fail
   go_region_held3 (fun W'=>(W'.cell? ⟨w1.heap.size,0,none⟩=some (.slice A1 fs.length cap1)∧W'.cell? ⟨w1.heap.size+1,0,none⟩=some (.slice A2 gs.length cap2)))
    (first | exact HS1.out _ HB2.out.drew | exact HS1.out _ HBA.out | exact HS1.out _ HBB.out)
    (first
      | (go_at_call 21;refine(HKI.out _ HB2.out.drew).mono ?_;rintro e wa ⟨rfl,hba⟩;have HBA:=zh (HB2.out.later (zD0 hba));clear hba)
      | (go_at_call 22;refine(HKS.out _ HBA.out).mono ?_;rintro e wb ⟨rfl,hbb⟩;have HBB:=zh (HBA.out.later hbb);clear hbb))
   all_goals
    go_wp2_with fail;go_ret;exact⟨zA0 (by simp),HBW.out.later HBB.out⟩
 have hli:((l.length:Int)==0)=false:=beq_eq_false_iff_ne.2 (by omega);have hli':¬(l.length:Int)=0:=by omega
 have HKA:=zh (zGM A' n' c' 0 (l.length:Int) w2 (HMO.out _ (HBW.out.later HB2.out)) hn' (by omega) (by omega));obtain⟨z0,z1⟩:=HS1.out _ HB2.out;go_wp2_with fail;refine HKA.out.mono ?_;rintro e w3 ⟨k,rfl,hk,hb3⟩;have hkl:k<l.length:=by omega
 have HB3:=zh (HB2.out.later hb3);clear hk hb3 z0 z1 HKA HB2;obtain⟨us,hou0⟩:=(HBL.out _ (Below.refl _ _)).evs k hkl;obtain⟨EA,ecap,hve,hec,_,hEA⟩:=Own.own_slice hou0.row;have HOU:Hid (∀W,Below WX.heap.size WX W→Own.OwnL evK W w.heap.size 55 (vs.getD k (.slice none 0 0)) (l.getD k default).evs us):=fun W hW=>hou0.later hW;have HVE:=zh hve;have HBE2:=zh (fun j N h3 h4 h5=>HBE.out k j N (by first | rfl | trivial) hkl h3 h4 h5);have HGN:=zh (fun j N h3=>zKP (N:=N) HGD.out hkl (j:=j) h3);have hm8:=(yW HGD.out hkl).1;clear hou0 hve HBE HGD;have HC1:Hid (∀W,Below WX.heap.size WX W→W.cell? ⟨g3,k*2+1,none⟩=some (.slice EA (l.getD k default).evs.length ecap)):=fun W hW=>by have c1:=(HBL.out W hW).cellAt rfl k 1 hkl (by decide);rw[c1,HVE.out];rfl
 generalize hLK:l.getD k default=bk at *;have HLK:=zh hLK;clear hLK;generalize hm:bk.evs.length=m at *;have HM:=zh hm;clear hm;have hkll:(k:Int)<(l.length:Int):=by omega
 go_wp2_with fail;go_loopw [9] (fun i wr=>∃j:Nat,j≤m∧i=.int .i64 j∧Below WX.heap.size WX wr) (fun i _=>m-(intOf i).toNat);case atStart=>exact⟨0,Nat.zero_le _,rfl,HB3.out⟩
 case round =>
  obtain⟨j,hj,rfl,hbr⟩:=hrel;have HBr:=zh hbr;clear hbr;have k1:=HC1.out wr HBr.out;by_cases hlt:j<m
  · obtain⟨ge,rfl,hge,hbe⟩:=hEA (by omega);have hji:(j:Int)<(m:Int):=by omega
    have hou:=HOU.out wr HBr.out;rw[HVE.out]at hou;have e0:=hou.cellAt HM.out j 0 hlt (by decide);have e1:=hou.cellAt HM.out j 1 hlt (by decide);have e2:=hou.cellAt HM.out j 2 hlt (by decide);have e3:=hou.cellAt HM.out j 3 hlt (by decide);have e4:=hou.cellAt HM.out j 4 hlt (by decide);obtain⟨SA,scap,hsa,_,_⟩:=Own.SubO.strs (hou.subs j (by rw[HM.out];exact hlt));rw[hsa]at e0 e1 e2 e3 e4;have HBE3:=zh (fun N h4 h5=>HBE2.out j N hlt h4 h5);have HGN3:=zh (fun N=>HGN.out j N hlt);have HSS:=zh (fun N=>zJj (es:=bk.evs) (N:=N) (show j<bk.evs.length by rw[HM.out];exact hlt));have HFS:=zh (fun (N:Int)=>Own.flat_set evK bk.evs us j 4 (.int .i64 N) { bk.evs.getD j default with n:=N } hou.len (by rw[HM.out];exact hlt) (by decide) (fun v=>rfl));simp[evK]at e0 e1 e2 e3 e4;rw[←List.getD_eq_getElem?_getD]at e0 e1 e2 e3 e4;clear hsa hou;have HDK:Hid (bk.evs.getD j default=bk.evs.getD j default):=rfl;generalize hd:bk.evs.getD j default=d at *;clear HDK;have HDD:=zh hd;clear hd;obtain⟨WE,hWE⟩:∃WE,WE=wr.alloc (.cells #[.int .i64 d.kind,.string d.name,.slice SA d.subs.length scap,.string d.val,.int .i64 d.n] 55):=⟨_,rfl⟩;have HQE:Hid (Blk WE wr.heap.size 55 #[.int .i64 d.kind,.string d.name,.slice SA d.subs.length scap,.string d.val,.int .i64 d.n]):=by subst hWE;exact heap_alloc_new _ _
    have HrE:Hid (Below wr.heap.size wr WE):=by subst hWE;exact Below.new _ _
    have hes:WE.heap.size=wr.heap.size+1:=by subst hWE;simp
    by_cases h4:d.kind=4
    case neg =>
     have hn4:(d.kind != (4:Int))=true:=by simpa using h4
     go_wp2_with fail;rw[←hWE];go_roundw;case rel=>exact⟨j+1,by omega,by go_num,HBr.out.later HrE.out⟩
     case measure=>simp[intOf];omega
    have hn4:(d.kind != (4:Int))=false:=by simp[h4]
    rw[h4]at hWE;have HBo:Hid (∀W,Below wr.heap.size wr W→BatsL W w.heap.size (.slice (some ⟨g3,0,none⟩) l.length cap3) l vs):=fun W hW=>HBL.out W (HBr.out.later hW);have HRB:Hid ((WE.alloc (.cells #[] 53)).ownsRow (wr.heap.size+1) 53 2 (.slice (some ⟨wr.heap.size+1,0,none⟩) 0 0) 0 []):=by have h:=World.ownsRow_lit (base:=wr.heap.size+1) (e:=53) (size:=2) WE #[] 0 (by omega) (by omega) rfl;rw[hes]at h;exact h
    have HeB:Hid (Below WE.heap.size WE (WE.alloc (.cells #[] 53))):=Below.new _ _;have HrB:=zh (HrE.out.later HeB.out);have HFB:=zh ((HBo.out wr (Below.refl _ _)).row.1);have HO1:Hid (∀u∈Own.flat batK l vs,u.oneCell'=true):=fun u hu=>(HBo.out wr (Below.refl _ _)).one hu;have hbsz:wr.heap.size+1≤(WE.alloc (.cells #[] 53)).heap.size:=by simp;omega
    go_wp2_with (rw[←hWE];clear hWE;at_builtin;go_loud (refine wpList_append_lies _ rfl (.tmp 66) (.tmp 67) 43 rfl (wr.heap.size+1) 53 j0 _ 2 32 Tryz.underlying43 hbi hy0 hy1 hy2 rfl (by decide) (.slice (some ⟨wr.heap.size+1,0,none⟩) 0 0) 0 [] rfl HRB.out ⟨g3,0,none⟩ l.length cap3 (Own.flat batK l vs) rfl ?c1 ?c2 ?c3 ?c4 ?c5 ?c6 ?c7 _ rfl ?_));case c1=>exact HFB.out
    case c2=>first | exact zFS (HBo.out _ HrB.out).row | exact zEv (HBo.out _ HrB.out).row
    case c3=>exact HO1.out
    case c4=>omega
    case c5=>unfold maxLen;omega
    case c6=>omega
    try (case c7=>first | exact hbsz | omega | (simp;omega))
    intro gb cb w6 hown6 hg6 _ hgb6;try simp only[Nat.zero_add,List.nil_append]at hown6
    try simp only[Nat.zero_add]
    have He6:=zh (HeB.out.grown hg6 HeB.out.size (fun g e=>by rw[hes];exact(HRB.out.lt g e).1));have Hr6:=zh (HrE.out.later He6.out);have HW6:=zh hown6;have HgB:=zh (hown6.lt gb rfl).1;clear hown6 hg6 HRB HrB hbsz HFB HO1;have HRE:Hid ((w6.alloc (.cells #[] 55)).ownsRow (wr.heap.size+1) 55 5 (.slice (some ⟨w6.heap.size,0,none⟩) 0 0) 0 []):=World.ownsRow_lit (base:=wr.heap.size+1) (e:=55) (size:=5) w6 #[] 0 (by have:=He6.out.size;omega) (by omega) rfl;have He6a:Hid (Below WE.heap.size WE (w6.alloc (.cells #[] 55))):=He6.out.later (Below.new _ _);have Hr6a:=zh (HrE.out.later He6a.out);have hou6:=HOU.out _ (HBr.out.later Hr6a.out);rw[HVE.out]at hou6;have HFE:Hid ((Own.flat evK bk.evs us).length=m*5):=by have h:=hou6.row.1;rw[HM.out]at h;exact h
    have HOE:Hid (∀u∈Own.flat evK bk.evs us,u.oneCell'=true):=fun u hu=>OwnL.oneE hou6 hu;have HRN:=zh (zFS (show(w6.alloc (.cells #[] 55)).ownsRow w.heap.size 55 5 (.slice (some ⟨ge,0,none⟩) m ecap) m (Own.flat evK bk.evs us) from by have h:=hou6.row;rw[HM.out]at h;exact h));have HRNJ:=zh (zEv (show(w6.alloc (.cells #[] 55)).ownsRow w.heap.size 55 5 (.slice (some ⟨ge,0,none⟩) m ecap) m (Own.flat evK bk.evs us) from by have h:=hou6.row;rw[HM.out]at h;exact h));have k1':=HC1.out _ (HBr.out.later Hr6.out);have k1'':=HC1.out _ (HBr.out.later Hr6a.out);have hesz:wr.heap.size+1≤(w6.alloc (.cells #[] 55)).heap.size:=by have:=He6a.out.size;omega
    try simp at k1''
    clear hou6 k1 e0 e1 e2 e3 e4;go_wp2_with (at_builtin;go_loud (refine wpList_append_lies _ rfl (.tmp 69) (.tmp 74) 51 rfl (wr.heap.size+1) 55 i0 _ 5 72 Tryz.underlying51 hi hz0 hz1 hz2 rfl (by decide) (.slice (some ⟨w6.heap.size,0,none⟩) 0 0) 0 [] rfl HRE.out ⟨ge,0,none⟩ m ecap (Own.flat evK bk.evs us) rfl ?d1 ?d2 ?d3 ?d4 ?d5 ?d6 ?d7 _ rfl ?_));case d1=>exact HFE.out
    case d2=>first | exact HRN.out | exact HRNJ.out
    case d3=>exact HOE.out
    case d4=>omega
    case d5=>unfold maxLen;omega
    case d6=>omega
    try (case d7=>first | exact hesz | (have:=He6.out.size;omega))
    intro gv cv w7 hown7 hg7 _ hgv7;try simp only[Nat.zero_add,List.nil_append]at hown7
    try simp only[Nat.zero_add]
    have He7:=zh (He6a.out.grown hg7 He6a.out.size (fun g e=>by rw[hes];exact(HRE.out.lt g e).1));have HW7b:=zh (World.ownsRow.kept (Own.own_later HW6.out (Below.new w6 (.cells #[] 55))) hg7 (Own.apart_types (Own.own_later HW6.out (Below.new w6 (.cells #[] 55))) HRE.out (by decide)));have HW7e:=zh hown7;have HgV:=zh (hown7.lt gv rfl).1;have HNE:Hid (gb≠gv):=fun e=>by subst e;have h1:=(zFZ HW7b.out rfl);have h2:=(zFZ HW7e.out rfl);obtain⟨c1,h1⟩:=h1;obtain⟨c2,h2⟩:=h2;exact absurd (zDN h1 h2) (by decide)
    clear hown7 hg7 HRE HFE HOE HRN hesz k1' k1'';obtain⟨WI,hWI⟩:∃WI,WI=w7.alloc (.cells #[.int .i64 1,.int .i64 0,.int .i64 11,.int .i64 10] 2):=⟨_,rfl⟩;have HeI:Hid (Below WE.heap.size WE WI):=by subst hWI;exact He7.out.later (Below.new _ _)
    have HrI:=zh (HrE.out.later HeI.out);have HII:Hid (Ints WI WI.heap.size (some ⟨w7.heap.size,0,none⟩) 4 [1,0,11,10]):=by subst hWI;exact zCf rfl rfl rfl
    have HWIb:Hid (WI.ownsRow (wr.heap.size+1) 53 2 (.slice (some ⟨gb,0,none⟩) l.length cb) l.length (Own.flat batK l vs)):=by subst hWI;exact Own.own_later HW7b.out (Below.new _ _)
    have HWIe:Hid (WI.ownsRow (wr.heap.size+1) 55 5 (.slice (some ⟨gv,0,none⟩) m cv) m (Own.flat evK bk.evs us)):=by subst hWI;exact Own.own_later HW7e.out (Below.new _ _)
    have HKA2:=zh (zGM A' n' c' 1 4 WI (HMO.out _ (HBW.out.later (HBr.out.later HrI.out))) hn' (by omega) (by omega));go_wp2_with fail;rw[←hWI];clear hWI;refine HKA2.out.mono ?_;rintro e w8 ⟨x,rfl,hx,hb8⟩;have hx3:x≤3:=by omega
    have He8:=zh (HeI.out.later hb8);have HW8b:=zh (Own.own_later HWIb.out hb8);have HW8e:=zh (Own.own_later HWIe.out hb8);obtain⟨bi,oi,hbi',hbl,hci⟩:=(HII.out.later hb8).2 (by omega);cases hbi';have cx:=hci x (by omega);rw[Nat.zero_add]at cx;generalize ([1,0,11,10]:List Int).getD x 0=NN at *;have ce:=HW8e.out.cellAt (j*5+4) (by omega);have fe:=HW8e.out.frozenAt (j*5+4);have ze:=(HW8e.out.lt gv rfl).2;have cb1:=HW8b.out.cellAt (k*2+1) (by omega);have fb1:=HW8b.out.frozenAt (k*2+1);have zb1:=(HW8b.out.lt gb rfl).2;have hne1:=HNE.out;have hne2:gv≠gb:=fun e=>HNE.out e.symm;have ce':∃u,w8.cell? ⟨gv,j*5+4,none⟩=some u:=by have h:=HW8e.out.1;rw[List.getElem?_eq_getElem (by omega)]at ce;exact⟨_,ce⟩
    have cb':∃u,w8.cell? ⟨gb,k*2+1,none⟩=some u:=by have h:=HW8b.out.1;rw[List.getElem?_eq_getElem (by omega)]at cb1;exact⟨_,cb1⟩
    obtain⟨ue,ce2⟩:=ce';obtain⟨ub,cb2⟩:=cb';clear ce cb1 hci hb8 hx HKA2 HWIb HWIe HII;go_wp2_with fail;obtain⟨W7,hW7⟩:∃W7,W7=(w8.setCell ⟨gv,j*5+4,none⟩ (.int .i64 NN)).setCell ⟨gb,k*2+1,none⟩ (.slice (some ⟨gv,0,none⟩) m cv):=⟨_,rfl⟩;have HeW7:Hid (Below WE.heap.size WE W7):=by subst hW7;exact(He8.out.setCell (p:=⟨gv,j*5+4,none⟩) (by rw[hes];exact HgV.out) _).setCell (p:=⟨gb,k*2+1,none⟩) (by rw[hes];exact HgB.out) _
    have HrW7:=zh (HrE.out.later HeW7.out);have HEV7:Hid (W7.ownsRow (wr.heap.size+1) 55 5 (.slice (some ⟨gv,0,none⟩) m cv) m (Own.flat evK (bk.evs.set j { d with n:=NN }) us)):=by subst hW7;obtain⟨h1,h2⟩:=HW8e.out.stored (j*5+4) (.int .i64 NN);have h3:=HFS.out NN;rw[show j*evK.size+4=j*5+4 from rfl]at h3;rw[h3]at h1;exact World.ownsRow.kept h1 (row:=some gb) (Own.grown_set _ _ _ _) (.inr (by simp[Value.ownBlock];exact fun e=>HNE.out e.symm))
    have HBV7:Hid (W7.ownsRow (wr.heap.size+1) 53 2 (.slice (some ⟨gb,0,none⟩) l.length cb) l.length (Own.flat batK l (vs.set k (.slice (some ⟨gv,0,none⟩) m cv)))):=by subst hW7;have h0:=World.ownsRow.kept HW8b.out (row:=some gv) (Own.grown_set w8 gv (j*5+4) (.int .i64 NN)) (.inr (by simp[Value.ownBlock];exact HNE.out));obtain⟨h1,h2⟩:=h0.stored (k*2+1) (.slice (some ⟨gv,0,none⟩) m cv);rw[zEJ l vs k _ (HBo.out wr (Below.refl _ _)).len hkl]at h1;exact h1
    have HBW7:=zh (HBr.out.later HrW7.out);have HES7:Hid ((bk.evs.set j { d with n:=NN }).length=m):=by unfold Hid;rw[List.length_set];exact HM.out
    have HRD7:Hid (∀W,Below W7.heap.size W7 W→Bats W W.heap.size (some ⟨gb,0,none⟩) l.length (l.set k ⟨bk.job,bk.evs.set j { d with n:=NN }⟩)):=fun W hW=>by have h1:=zHJ (es:=bk.evs.set j { d with n:=NN }) (us:=us) (gv:=gv) (cv:=cv) (gb:=gb) (cb:=cb) (b1:=wr.heap.size+1) (b2:=wr.heap.size+1) (HBL.out W7 HBW7.out) hkl (by rw[HLK.out];exact HOU.out W7 HBW7.out) (by rw[List.length_set,HLK.out]) (by rw[HLK.out];exact HSS.out NN) (by rw[HES7.out];exact HEV7.out) (by rw[HES7.out];exact HBV7.out);rw[HLK.out]at h1;exact h1.later hW
    have hce7:=HEV7.out.cellAt (j*5+4) (by omega);have hfl:=Own.flat_at evK (bk.evs.set j { d with n:=NN }) us j 4 (by rw[List.length_set];exact(HOU.out W7 HBW7.out).len) (by rw[HES7.out];exact hlt) (by decide);rw[Own.getD_set_ _ _ _ _ _ (by rw[HM.out];exact hlt),if_pos rfl]at hfl;have hcN:W7.cell? ⟨gv,j*5+4,none⟩=some (.int .i64 NN):=hce7.trans hfl;have HQ7:Hid (W7.cell? ⟨wr.heap.size,4,none⟩=some (.int .i64 d.n)):=(HQE.out.later HeW7.out HQE.out.lt).at 4 rfl;have HS16:Hid (∀W,Below W7.heap.size W7 W→(W.cell? ⟨w1.heap.size,0,none⟩=some (.slice A1 fs.length cap1)∧W.cell? ⟨w1.heap.size+1,0,none⟩=some (.slice A2 gs.length cap2)∧W.cell? ⟨gv,j*5+4,none⟩=some (.int .i64 NN)∧W.cell? ⟨wr.heap.size,4,none⟩=some (.int .i64 d.n))):=fun W hW=>⟨(HS1.out W (HBW7.out.later hW)).1,(HS1.out W (HBW7.out.later hW)).2,cell_later hW hcN,cell_later hW HQ7.out⟩;rw[←hW7];clear hce7 hfl hcN ce2 cb2 fe ze fb1 zb1 hW7;by_cases hN:NN=d.n
    · have hnb:(NN != d.n)=false:=by simp[hN]
      refine zCm (S:=fun W=>(W.cell? ⟨w1.heap.size,0,none⟩=some (.slice A1 fs.length cap1)∧W.cell? ⟨w1.heap.size+1,0,none⟩=some (.slice A2 gs.length cap2)∧W.cell? ⟨gv,j*5+4,none⟩=some (.int .i64 NN)∧W.cell? ⟨wr.heap.size,4,none⟩=some (.int .i64 d.n))) 13 (by kernel_rfl) ?hSrf (fun hHeld=>?rgrf);case hSrf=>exact HS16.out _ (Below.refl _ _).drew
      refine wt 0 ?rfa1 [8,7,4,3,2] ?rfb2 ?rfc3;case rfb2=>intro w hSw;(try dsimp only at hSw);obtain⟨s0,s1,s2,s3⟩:=hSw;go_simp;(try with_reducible rfl)
      try simp only[Act.put,zA,zB,zC,zD,zF]
      refine wt 1 ?rfa4 [8,7,4,3,2] ?rfb5 ?rfc6;case rfb5=>intro w hSw;(try dsimp only at hSw);obtain⟨s0,s1,s2,s3⟩:=hSw;go_simp;(try with_reducible rfl)
      try simp only[Act.put,zA,zB,zC,zD,zE,zF]
      refine wt 2 ?rfa7 [8,7,4,3] ?rfb8 ?rfc9;case rfb8=>intro w hSw;(try dsimp only at hSw);obtain⟨s0,s1,s2,s3⟩:=hSw;go_simp;(try with_reducible rfl)
      try simp only[Act.put,zA,zB,zC,zD,zE,zF]
      refine wt 3 ?rfa10 [8,7,4] ?rfb11 ?rfc12;case rfb11=>intro w hSw;(try dsimp only at hSw);obtain⟨s0,s1,s2,s3⟩:=hSw;go_simp;(try with_reducible rfl)
      try simp only[Act.put,zA,zB,zC,zD,zE,zF]
      refine wt 4 ?rfa13 [8,7] ?rfb14 ?rfc15;case rfb14=>intro w hSw;(try dsimp only at hSw);obtain⟨s0,s1,s2,s3⟩:=hSw;go_simp;(try with_reducible rfl)
      try simp only[Act.put,zA,zB,zC,zD,zE,zF]
      refine wt 5 ?rfa16 [8,7,6] ?rfb17 ?rfc18;case rfb17=>intro w hSw;(try dsimp only at hSw);obtain⟨s0,s1,s2,s3⟩:=hSw;go_simp;(try with_reducible rfl)
      try simp only[Act.put,zA,zB,zC,zD,zE,zF]
      refine wt 6 ?rfa19 [8,7] ?rfb20 ?rfc21;case rfb20=>intro w hSw;(try dsimp only at hSw);obtain⟨s0,s1,s2,s3⟩:=hSw;go_simp;(try with_reducible rfl)
      try simp only[Act.put,zA,zB,zC,zD,zE,zF]
      refine wt 7 ?rfa22 [8] ?rfb23 ?rfc24;case rfb23=>intro w hSw;(try dsimp only at hSw);obtain⟨s0,s1,s2,s3⟩:=hSw;go_simp;(try with_reducible rfl)
      try simp only[Act.put,zA,zB,zC,zD,zE,zF]
      refine wt 8 ?rfa25 [] ?rfb26 ?rfc27;case rfb26=>intro w hSw;(try dsimp only at hSw);obtain⟨s0,s1,s2,s3⟩:=hSw;go_simp;(try with_reducible rfl)
      try simp only[Act.put,zA,zB,zC,zD,zE,zF]
      refine wu 9 [12] ?rfc28;try simp only[Act.put,zA,zB,zC,zD,zE,zF]
      refine wu 10 [12] ?rfc29;try simp only[Act.put,zA,zB,zC,zD,zE,zF]
      refine wu 11 [12] ?rfc30;try simp only[Act.put,zA,zB,zC,zD,zE,zF]
      refine wu 12 [] ?rfc31;try simp only[Act.put,zA,zB,zC,zD,zE,zF]
      refine zAn (rs:=[13]) (by kernel_rfl) (by simp) ?_;refine AllReadyE.cons rfl (fun KW hK=>?rfst32) AllReadyE.nil;go_simp;refine hK.out _ _ (fun h=>absurd rfl h) (fun hHeld=>?rfrs34);clear hK KW;try simp only[Act.put,zA,zB,zC,zD,zE,zF]
      refine zDd (by kernel_rfl) ?_ _;go_wp2_with fail;go_roundw;case rel=>exact⟨j+1,by omega,by go_num,HBW7.out.drew⟩
      case measure=>simp[intOf];omega
    · have hnb:(NN != d.n)=true:=by simpa using hN
      have HKX:=zh (fun W (hW:Below W7.heap.size W7 W)=>HKN.out (some ⟨gb,0,none⟩) cb (l.set k ⟨bk.job,bk.evs.set j { d with n:=NN }⟩) W (HBW7.out.later hW) (HRD7.out W hW) (HGN3.out NN));have HSX:=HBE3.out NN h4 hN;rw[HSX]at HKX;refine zCm (S:=fun W=>(W.cell? ⟨w1.heap.size,0,none⟩=some (.slice A1 fs.length cap1)∧W.cell? ⟨w1.heap.size+1,0,none⟩=some (.slice A2 gs.length cap2)∧W.cell? ⟨gv,j*5+4,none⟩=some (.int .i64 NN)∧W.cell? ⟨wr.heap.size,4,none⟩=some (.int .i64 d.n))) 13 (by kernel_rfl) ?hSrt (fun hHeld=>?rgrt);case hSrt=>exact HS16.out _ (Below.refl _ _).drew
      refine wt 0 ?rta1 [8,7,4,3,2] ?rtb2 ?rtc3;case rtb2=>intro w hSw;(try dsimp only at hSw);obtain⟨s0,s1,s2,s3⟩:=hSw;go_simp;(try with_reducible rfl)
      try simp only[Act.put,zA,zB,zC,zD,zF]
      refine wt 1 ?rta4 [8,7,4,3,2] ?rtb5 ?rtc6;case rtb5=>intro w hSw;(try dsimp only at hSw);obtain⟨s0,s1,s2,s3⟩:=hSw;go_simp;(try with_reducible rfl)
      try simp only[Act.put,zA,zB,zC,zD,zE,zF]
      refine wt 2 ?rta7 [8,7,4,3] ?rtb8 ?rtc9;case rtb8=>intro w hSw;(try dsimp only at hSw);obtain⟨s0,s1,s2,s3⟩:=hSw;go_simp;(try with_reducible rfl)
      try simp only[Act.put,zA,zB,zC,zD,zE,zF]
      refine wt 3 ?rta10 [8,7,4] ?rtb11 ?rtc12;case rtb11=>intro w hSw;(try dsimp only at hSw);obtain⟨s0,s1,s2,s3⟩:=hSw;go_simp;(try with_reducible rfl)
      try simp only[Act.put,zA,zB,zC,zD,zE,zF]
      refine wt 4 ?rta13 [8,7] ?rtb14 ?rtc15;case rtb14=>intro w hSw;(try dsimp only at hSw);obtain⟨s0,s1,s2,s3⟩:=hSw;go_simp;(try with_reducible rfl)
      try simp only[Act.put,zA,zB,zC,zD,zE,zF]
      refine wt 5 ?rta16 [8,7,6] ?rtb17 ?rtc18;case rtb17=>intro w hSw;(try dsimp only at hSw);obtain⟨s0,s1,s2,s3⟩:=hSw;go_simp;(try with_reducible rfl)
      try simp only[Act.put,zA,zB,zC,zD,zE,zF]
      refine wt 6 ?rta19 [8,7] ?rtb20 ?rtc21;case rtb20=>intro w hSw;(try dsimp only at hSw);obtain⟨s0,s1,s2,s3⟩:=hSw;go_simp;(try with_reducible rfl)
      try simp only[Act.put,zA,zB,zC,zD,zE,zF]
      refine wt 7 ?rta22 [8] ?rtb23 ?rtc24;case rtb23=>intro w hSw;(try dsimp only at hSw);obtain⟨s0,s1,s2,s3⟩:=hSw;go_simp;(try with_reducible rfl)
      try simp only[Act.put,zA,zB,zC,zD,zE,zF]
      refine wt 8 ?rta25 [] ?rtb26 ?rtc27;case rtb26=>intro w hSw;(try dsimp only at hSw);obtain⟨s0,s1,s2,s3⟩:=hSw;go_simp;(try with_reducible rfl)
      try simp only[Act.put,zA,zB,zC,zD,zE,zF]
      refine wt 9 ?rta28 [12] ?rtb29 ?rtc30;case rtb29=>intro w hSw;(try dsimp only at hSw);obtain⟨s0,s1,s2,s3⟩:=hSw;go_simp;(try with_reducible rfl)
      try simp only[Act.put,zA,zB,zC,zD,zE,zF]
      refine wt 10 ?rta31 [12] ?rtb32 ?rtc33;case rtb32=>intro w hSw;(try dsimp only at hSw);obtain⟨s0,s1,s2,s3⟩:=hSw;go_simp;(try with_reducible rfl)
      try simp only[Act.put,zA,zB,zC,zD,zE,zF]
      refine wt 11 ?rta34 [12] ?rtb35 ?rtc36;case rtb35=>intro w hSw;(try dsimp only at hSw);obtain⟨s0,s1,s2,s3⟩:=hSw;go_simp;(try with_reducible rfl)
      try simp only[Act.put,zA,zB,zC,zD,zE,zF]
      refine zAn (rs:=[12]) (by kernel_rfl) (by simp) ?_;refine AllReadyE.cons rfl (fun KW hK=>?rtst37) AllReadyE.nil;go_simp;refine(HKX.out _ (by first | exact(Below.refl _ _).drew | exact Below.refl _ _)).mono ?_;rintro e wb ⟨rfl,hbx⟩;have HBX9:=zh (HBW7.out.later (zD0 hbx));have HBX7:=zh (zD0 hbx);clear hbx;try go_wp2_with fail
      refine hK.out _ _ (fun _=>?rtke38) (fun hHeld'=>?rtrs39);case rtke38=>exact HS16.out _ HBX7.out
      have hHeld:=hHeld' (by decide);clear hHeld';clear hK KW;try simp only[Act.put,zA,zB,zC,zD,zE,zF]
      refine zAn (rs:=[13]) (by kernel_rfl) (by simp) ?_;refine AllReadyE.cons rfl (fun KW hK=>?rtst40) AllReadyE.nil;go_simp;refine hK.out _ _ (fun h=>absurd rfl h) (fun hHeld=>?rtrs42);clear hK KW;try simp only[Act.put,zA,zB,zC,zD,zE,zF]
      refine zDd (by kernel_rfl) ?_ _;go_wp2_with fail;go_roundw;case rel=>exact⟨j+1,by omega,by go_num,HBX9.out⟩
      case measure=>simp[intOf];omega
  · have hji:¬(j:Int)<(m:Int):=by omega
    go_wp2_with fail;go_ret;exact⟨rfl,HBW.out.later HBr.out⟩
end Go.Proofs.YtgmaamnofhmecaaGreatDoor
