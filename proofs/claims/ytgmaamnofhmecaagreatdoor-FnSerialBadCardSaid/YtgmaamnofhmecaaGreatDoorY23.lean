import Derived.Test.YtgmaamnofhmecaaGreatDoorY22
import Derived.Test.YtgmaamnofhmecaaGreatDoorY15
import Derived.Test.YtgmaamnofhmecaaGreatDoorY18
set_option linter.unusedSimpArgs false
set_option maxHeartbeats 4000000
open Go.Lib renaming hid → zh
namespace Go.Proofs.YtgmaamnofhmecaaGreatDoor
open Go.RowKit
set_option linter.unusedVariables false
set_option maxRecDepth 100000 in
theorem zGZ (v:ByteArray) (ss:List ByteArray) (w:World) (htab:uG w) (hv:zDV v ss) (hz:v.size≤1048576) :
 Calls Tryz.prog 221 #[.string v] w (zX0 v w):=by
 obtain⟨i0,hi,hz0,hz1,hz2⟩:=info_parts zED;have HGO:=zh (zGw hv);have HPO:=zh hv;obtain⟨hsb,hpu,rfl⟩:=hv;have hsb2:=hsb;unfold xC at hsb;rw[Bool.and_eq_true,decide_eq_true_eq,List.all_eq_true]at hsb;obtain⟨hn4,hall⟩:=hsb;have HSB:Hid (∀s∈ss,0<s.size∧s.size≤24):=fun s hs=>by have h:=hall s hs;unfold xG at h;rw[Bool.and_eq_true,decide_eq_true_eq,decide_eq_true_eq]at h;omega
 have HZ:Hid (∀s∈ss,s.size≤1048576):=fun s hs=>by have:=(HSB.out s hs).2;omega
 have HPU:=zh hpu;have HOK:=zh hsb2;have HDR:Hid (∀k,k<ss.length→(ss.drop k).flatMap vD=vD (ss.getD k ByteArray.empty)++(ss.drop (k+1)).flatMap vD):=fun k h=>by rw[List.drop_eq_getElem_cons h,List.flatMap_cons,List.getD_eq_getElem?_getD,List.getElem?_eq_getElem h];rfl
 have HMEM:Hid (∀k,k<ss.length→ss.getD k ByteArray.empty∈ss):=fun k h=>Own.mem_of_getD ss k _ h;have HPUT:Hid ((zN0 ss).data.toList=ss.flatMap vD):=zAS ss;have HT:=zh htab;generalize hN:ss.length=n at *;have HLN:=zh hN;clear hall hsb2 hpu hN;obtain⟨W0,hW0⟩:∃W0,W0=w.alloc (.cells #[] 9):=⟨_,rfl⟩;have HU0:Hid (Own.SubO W0 w.heap.size (.slice (some ⟨w.heap.size,0,none⟩) 0 0) []):=by subst hW0;exact World.ownsRow_lit (e:=9) (size:=1) w #[] 0 (Nat.le_refl _) (by omega) rfl
 have HB0:Hid (Below w.heap.size w W0):=by subst hW0;exact Below.new _ _
 generalize hV:zN0 ss=V at *;have HV:=zh hV;clear hV;go_enter Tryz.func221,Tryz.ntmps221;go_wp2_with fail;rw[←hW0];clear hW0;go_loopw [4,5] (fun o l wr=>∃(k:Nat) (L:ByteArray),k≤n∧l=.string L∧Hid (L.data.toList=(ss.drop k).flatMap vD)∧L.size≤1048576∧Hid (Own.SubO wr w.heap.size o (ss.take k))∧Hid (Below w.heap.size w wr)) (fun o _ _=>n-zFP o);case atStart=>exact⟨0,V,Nat.zero_le _,rfl,HPUT.out,hz,HU0.out,HB0.out⟩
 case round =>
  obtain⟨k,L,hk,rfl,HL,hLz,HU,HB⟩:=hrel;have hszr:=HB.out.size;obtain⟨S,cap,rfl,hcap,_⟩:=Own.SubO.strs HU.out;have HTL:Hid ((ss.take k).length=k):=by unfold Hid;rw[List.length_take,HLN.out];omega
  rw[HTL.out]at hcap HU ⊢;by_cases hlt:k<n
  · have hls:=HDR.out k hlt;obtain⟨c,r,hc1,_⟩:=zBY (ss.getD k ByteArray.empty);have hne:L.toList.isEmpty=false:=by rw[yA,HL.out,hls,hc1];rfl
    have hne2:(!L.toList.isEmpty)=true:=by rw[hne];rfl
    have hk4:(k:Int)≤4:=by omega
    have hmem:=HMEM.out k hlt;have HSP:=HPU.out _ hmem;have HSZp:=(HSB.out _ hmem).1;have HTK:Hid (ss.take (k+1)=ss.take k++[ss.getD k ByteArray.empty]):=by unfold Hid;rw[List.take_succ_eq_append_getElem (by rw[HLN.out];exact hlt),List.getD_eq_getElem?_getD,List.getElem?_eq_getElem (by rw[HLN.out];exact hlt)];rfl
    have HSZ:Hid (((ss.drop (k+1)).flatMap vD).length≤1048576):=by unfold Hid;have h2:=congrArg List.length (HL.out.trans hls);rw[List.length_append,Array.length_toList]at h2;have h3:L.data.size=L.size:=rfl;omega
    have hLl:L.data.toList.length=L.size:=by rw[Array.length_toList];rfl
    have hsel:L.size=(vD (ss.getD k ByteArray.empty)).length+((ss.drop (k+1)).flatMap vD).length:=by rw[←hLl,HL.out,hls,List.length_append]
    have hv0:0<L.size:=by have h2:=congrArg List.length hc1;rw[List.length_cons]at h2;omega
    have hx1:(L.extract 1 L.size).size≤1048576:=by rw[ByteArray.size_extract];omega
    have hLs:=HL.out.trans hls;clear hmem;generalize hs0:ss.getD k ByteArray.empty=s at *;generalize hD:(ss.drop (k+1)).flatMap vD=D at *;have HD:=zh hD;clear hD hs0;by_cases hcn:wB s=true
    · have hse:vD s=1::be8 (xU s):=by unfold vD;rw[if_pos hcn]
      obtain⟨hn1,hn2,hn3⟩:=zCX s;have hb0:L[0]'hv0=1:=uM hLs hv0 (by rw[hse];rfl);have hb1:(((L[0]'hv0).toNat:Int)==(1:Int))=true:=by rw[hb0];rfl
      have HK1:=zh (fun W (hW:Below w.heap.size w W)=>zEk (L.extract 1 L.size) (xU s) D W (wA HT.out hW) (by
       rw[yU,hLs,hse,List.take_of_length_le (by
        have h2:=congrArg List.length (hLs.trans (congrArg (·++D) hse));rw[List.length_drop];rw[hLl]at h2
        omega)]
       rfl) hn1 hn2 hx1)
      have HTX:Hid ((⟨(wG ((xU s:Int)-1000000000000000000)).toArray⟩:ByteArray)=s):=by unfold Hid;apply zFa;have hc2:=hcn;unfold wB at hc2;rw[decide_eq_true_eq]at hc2;rw[show(xU s:Int)-1000000000000000000=zH0 s.data.toList by omega];simpa using hc2
      rw[HTX.out]at HK1;have h1L:(1:Int)≤(L.size:Int):=by omega
      clear hls hc1 hLl hsel hLs hb0 hse hn1 hn2 hn3 hcn;go_wp2_with fail;refine(HK1.out _ HB.out).mono ?_;rintro e w1 ⟨t,rfl,ht,hb1'⟩;have HB1:=zh (HB.out.later hb1');have HT:=zh ht;have hU1:=Own.own_later HU.out hb1';rw[HTL.out]at hU1;have HRr:Hid (∀o,(w1.alloc o).ownsRow w.heap.size 9 1 (.slice S k cap) k ((ss.take k).map Value.string)):=fun o=>Own.own_later hU1 (Below.new w1 o);have hsz1:=HB1.out.size;have htz:t.size≤1048576:=by have h2:=congrArg List.length ht;rw[Array.length_toList]at h2;have h3:t.data.size=t.size:=rfl;have:=HSZ.out;omega
      clear hb1' ht hU1 hne hne2;go_wp2_with (at_builtin;refine wpList_append_own _ rfl (.tmp 39) (.tmp 41) 27 rfl w.heap.size 9 i0 _ 1 16 Tryz.underlying27 hi hz0 hz1 hz2 rfl (by decide) _ k _ rfl (HRr.out _) ⟨_,0,none⟩ 1 1 [.string s] rfl rfl ?c1 ?c2 ?c3 ?c4 ?c5 ?_);case c1=>exact cell_one_new _ _ _
      case c2=>simp[Value.oneCell']
      case c3=>unfold maxLen;omega
      case c4=>omega
      case c5=>simp;omega
      intro v4 w4 hown4 hg4 _;rw[←List.map_take]at hown4;have HU4:=zh (zBX hown4 HTL.out.symm);rw[←HTK.out]at HU4;have HB4:Hid (Below w.heap.size w w4):=(HB1.out.later (Below.new _ _)).grown hg4 (by simp;omega) (fun g hg=>((HRr.out (.cells #[] 0)).lt g hg).1);obtain⟨S4,cap4,e4,_,_⟩:=Own.SubO.strs HU4.out;have hl4:(ss.take (k+1)).length=k+1:=by rw[List.length_take,HLN.out];omega
      rw[hl4]at e4;subst e4;clear hown4 hg4;go_wp2_with fail;go_roundw;case rel=>exact⟨k+1,t,by omega,rfl,by unfold Hid;rw[HD.out];exact HT.out,htz,HU4.out,HB4.out⟩
      case measure=>simp[zFP];omega
    · have hse:vD s=2::(s.data.toList++[0,0]):=by unfold vD;rw[if_neg hcn]
      have hb0:L[0]'hv0=2:=uM hLs hv0 (by rw[hse];rfl);have hb1:(((L[0]'hv0).toNat:Int)==(1:Int))=false:=by rw[hb0];rfl
      have hb2:(((L[0]'hv0).toNat:Int)==(2:Int))=true:=by rw[hb0];rfl
      have HK1:=zh (fun W=>zEj (L.extract 1 L.size) s D W (by
       rw[yU,hLs,hse,List.take_of_length_le (by
        have h2:=congrArg List.length (hLs.trans (congrArg (·++D) hse));rw[List.length_drop];rw[hLl]at h2
        omega)]
       simp) HSP hx1)
      have h1L:(1:Int)≤(L.size:Int):=by omega
      clear hls hc1 hLl hsel hLs hb0 hse hcn;go_wp2_with fail;refine(HK1.out _).mono ?_;rintro e w1 ⟨t,rfl,ht,hb1'⟩;have HB1:=zh (HB.out.later hb1');have HT:=zh ht;have hU1:=Own.own_later HU.out hb1';rw[HTL.out]at hU1;have HRr:Hid (∀o,(w1.alloc o).ownsRow w.heap.size 9 1 (.slice S k cap) k ((ss.take k).map Value.string)):=fun o=>Own.own_later hU1 (Below.new w1 o);have hsz1:=HB1.out.size;have htz:t.size≤1048576:=by have h2:=congrArg List.length ht;rw[Array.length_toList]at h2;have h3:t.data.size=t.size:=rfl;have:=HSZ.out;omega
      clear hb1' ht hU1 hne hne2;go_wp2_with (at_builtin;refine wpList_append_own _ rfl (.tmp 39) (.tmp 41) 27 rfl w.heap.size 9 i0 _ 1 16 Tryz.underlying27 hi hz0 hz1 hz2 rfl (by decide) _ k _ rfl (HRr.out _) ⟨_,0,none⟩ 1 1 [.string s] rfl rfl ?c1 ?c2 ?c3 ?c4 ?c5 ?_);case c1=>exact cell_one_new _ _ _
      case c2=>simp[Value.oneCell']
      case c3=>unfold maxLen;omega
      case c4=>omega
      case c5=>simp;omega
      intro v4 w4 hown4 hg4 _;rw[←List.map_take]at hown4;have HU4:=zh (zBX hown4 HTL.out.symm);rw[←HTK.out]at HU4;have HB4:Hid (Below w.heap.size w w4):=(HB1.out.later (Below.new _ _)).grown hg4 (by simp;omega) (fun g hg=>((HRr.out (.cells #[] 0)).lt g hg).1);obtain⟨S4,cap4,e4,_,_⟩:=Own.SubO.strs HU4.out;have hl4:(ss.take (k+1)).length=k+1:=by rw[List.length_take,HLN.out];omega
      rw[hl4]at e4;subst e4;clear hown4 hg4;go_wp2_with fail;go_roundw;case rel=>exact⟨k+1,t,by omega,rfl,by unfold Hid;rw[HD.out];exact HT.out,htz,HU4.out,HB4.out⟩
      case measure=>simp[zFP];omega
  · obtain rfl:k=n:=by omega
    have hemp:L.toList.isEmpty=true:=by rw[yA,HL.out,List.drop_of_length_le (by rw[HLN.out];exact Nat.le_refl _)];rfl
    have hemp2:(!L.toList.isEmpty)=false:=by rw[hemp];rfl
    have HTA:Hid (ss.take k=ss):=List.take_of_length_le (by rw[HLN.out];exact Nat.le_refl _);rw[HTA.out]at HU;obtain⟨S',cap',e',hcap',hS⟩:=Own.SubO.strs HU.out;rw[HLN.out]at e' hS;injection e' with e1 _ e3;subst e1 e3;have HK1:=zh (fun W (hW:Below wr.heap.size wr W)=>yP S k cap ss W (hS.later hW) (by omega) HZ.out);have HK2:=zh (fun W (hW:Below wr.heap.size wr W)=>zCG S k cap ss W (hS.later hW) HPU.out HOK.out (wA HT.out (HB.out.later hW)));rw[HOK.out]at HK1;have HV2:Hid ((⟨(ss.flatMap vD).toArray⟩:ByteArray)=V):=HV.out;rw[HV2.out]at HK2;clear hS;go_wp2_with fail;refine(HK1.out _ (Below.refl _ _)).mono ?_;rintro e w1 ⟨rfl,rfl⟩;go_wp2_with fail;refine(HK2.out _ (Below.refl _ _)).mono ?_;rintro e w2 ⟨rfl,hb2⟩;have HB2:=zh hb2;clear hb2;go_wp2_with fail
    go_ret2
    refine⟨_,ss,?_,fun _=>HPO.out,Own.own_later HU.out HB2.out,HB.out.later HB2.out⟩;rw[HGO.out];rfl
set_option maxRecDepth 100000 in
theorem zHa (v:ByteArray) (w:World) (hv:zAU v) (hz:v.size≤1048576) :
 Calls Tryz.prog 221 #[.string v] w (zX0 v w):=by
 have HGO:=zh (zEG hv);have hbad:=hv;obtain⟨c,r,he,h1,h2⟩:=hbad;have hv0:0<v.size:=by have:=congrArg List.length he;rw[Array.length_toList]at this;show 0<v.data.size;rw[this];simp
 have h0:v[0]'hv0=c:=uM he hv0 rfl;have hb1:(((v[0]'hv0).toNat:Int)==(1:Int))=false:=by rw[h0];exact beq_eq_false_iff_ne.2 (fun e=>h1 (UInt8.toNat_inj.1 (by rw[show(1:UInt8).toNat=1 from rfl];omega)))
 have hb2:(((v[0]'hv0).toNat:Int)==(2:Int))=false:=by rw[h0];exact beq_eq_false_iff_ne.2 (fun e=>h2 (UInt8.toNat_inj.1 (by rw[show(2:UInt8).toNat=2 from rfl];omega)))
 have hne:v.toList.isEmpty=false:=by obtain⟨c,r,he,_⟩:=hv;rw[yA,he];rfl
 have hne2:(!v.toList.isEmpty)=true:=by rw[hne];rfl
 clear hv he h0 h1 h2;go_enter Tryz.func221,Tryz.ntmps221;go_wp2_with fail;go_loopw [4,5] (fun o l wr=>l=.string v∧o=.slice (some ⟨w.heap.size,0,none⟩) 0 0∧Hid (Below w.heap.size w wr)) (fun _ _ _=>0);case atStart=>exact⟨rfl,rfl,Below.new _ _⟩
 case round =>
  obtain⟨rfl,rfl,HB⟩:=hrel;go_wp2_with fail
  go_ret2
  refine⟨_,[],?_,fun h=>absurd (HGO.out.symm.trans h) (by decide),Own.sub_nil _ _,HB.out⟩;rw[HGO.out];rfl
theorem zHb (v:ByteArray) (w:World) (htab:uG w) (hv:okV v) (hz:v.size≤1048576) :
 Calls Tryz.prog 221 #[.string v] w (zX0 v w):=by
 rcases hv with ⟨ss,h⟩ | h
 · exact zGZ v ss w htab h hz
 · exact zHa v w h hz
end Go.Proofs.YtgmaamnofhmecaaGreatDoor
namespace Go.Proofs.YtgmaamnofhmecaaGreatDoor
open Go.RowKit
def wW (nm:ByteArray) (ss:List ByteArray) (d:NodeD) (out:Int):Int:=if inN nm ss d=true then (if d.subs.length=ss.length then out+1 else if out<10 then out+10 else out) else out
def zF0 (nm:ByteArray) (ss:List ByteArray) (fs:List NodeD):Int:=fs.foldl (fun out d=>wW nm ss d out) 0
def zGF (fs:List NodeD) (nm:ByteArray) (ss:List ByteArray):Int:=if (xA fs&&wD nm ss)=true then zF0 nm ss fs else 0
end Go.Proofs.YtgmaamnofhmecaaGreatDoor
namespace Go.Proofs.YtgmaamnofhmecaaGreatDoor
open Go.RowKit
set_option linter.unusedVariables false
structure EvD where
 kind:Int
 name:ByteArray
 subs:List ByteArray
 val:ByteArray
 n:Int
deriving Inhabited
theorem EvD.ext_ {a b:EvD} (h0:a.kind=b.kind) (h1:a.name=b.name) (h2:a.subs=b.subs) (h3:a.val=b.val) (h4:a.n=b.n):a=b:=by
 cases a;cases b;simp only at h0 h1 h2 h3 h4;subst h0 h1 h2 h3 h4;rfl
def vX (a b:EvD):Bool:=decide (a.kind=b.kind)&&(decide (a.name=b.name)&&(decide (a.subs=b.subs)&&(decide (a.val=b.val)&&decide (a.n=b.n))))
theorem sameE_iff {a b:EvD}:vX a b=true↔a=b:=by
 unfold vX;simp only[Bool.and_eq_true,decide_eq_true_eq];exact⟨fun ⟨h0,h1,h2,h3,h4⟩=>EvD.ext_ h0 h1 h2 h3 h4,fun h=>by subst h;simp⟩
def xI (e:EvD):Bool:=decide (e.kind=1)||(decide (e.kind=4)||(decide (e.kind=5)||decide (e.kind=6)))
def uB (e:EvD):Bool:=decide (e.kind=2)||decide (e.kind=3)
def yV (n:Int):Bool:=decide (n=0)||(decide (n=1)||(decide (n=10)||decide (n=11)))
noncomputable def resB (e:EvD):Bool :=
 if e.kind=1 then yV e.n&&(decide (e.val.size≤64)&&(decide (e.n=1∨e.n=11)||decide (e.val=⟨#[]⟩)))
 else if e.kind=4 then yV e.n&&decide (e.val=⟨#[]⟩)
 else if e.kind=5 then (decide (e.n=1)||decide (e.n=-1))&&(decide (e.val=⟨#[]⟩)||xG e.val)
 else if e.kind=6 then (decide (e.n=1)&&getOkB e.val)||(decide (e.n=0)&&decide (e.val=⟨#[]⟩))
 else if e.kind=2 then decide (e.n=0)&&decide (e.val.size≤64)
 else decide (e.kind=3)&&(decide (e.n=0)&&decide (e.val=⟨#[]⟩))
def wC (ss:List ByteArray):ByteArray:=ss.getD (ss.length-1) ByteArray.empty
def xN (ss:List ByteArray):Bool:=decide (0<ss.length)&&(decide (ss.length≤4)&&(xC (ss.take (ss.length-1))&&(decide (wC ss=⟨#[]⟩)||xG (wC ss))))
def yH (e:EvD):Bool:=xF e.name&&(if e.kind=5 then xN e.subs else xC e.subs)
noncomputable def noteB (e:EvD):Bool:=yH e&&resB e
noncomputable def notesB (l:List EvD):Bool:=decide (l.length≤60)&&l.all noteB
def zAA (fs:List NodeD) (nm:ByteArray) (ss:List ByteArray):ByteArray:=if wJ fs nm ss=true then (fs.getD (atN fs nm ss) default).val else ⟨#[]⟩
def zBk (nm:ByteArray) (ss:List ByteArray) (back:Bool) (d:NodeD) (best:ByteArray):ByteArray :=
 if (inN nm (ss.take (ss.length-1)) d&&decide (ss.length≤d.subs.length))=true then
  (if (if back=true then (decide (wC ss=⟨#[]⟩)||uA (d.subs.getD (ss.length-1) ByteArray.empty) (wC ss))&&(decide (best=⟨#[]⟩)||uA best (d.subs.getD (ss.length-1) ByteArray.empty))
    else (decide (wC ss=⟨#[]⟩)||uA (wC ss) (d.subs.getD (ss.length-1) ByteArray.empty))&&(decide (best=⟨#[]⟩)||uA (d.subs.getD (ss.length-1) ByteArray.empty) best))=true
  then d.subs.getD (ss.length-1) ByteArray.empty else best)
 else best
def wM (nm:ByteArray) (ss:List ByteArray) (back:Bool) (fs:List NodeD):ByteArray:=fs.foldl (fun best d=>zBk nm ss back d best) ⟨#[]⟩
def zBd (nm:ByteArray) (ss:List ByteArray) (d:NodeD):Bool:=decide (d.name=nm)&&vE ss d.subs
def vL (nm:ByteArray) (ss:List ByteArray) (fs:List NodeD):Int:=xJ (zBd nm ss) fs 0
def zHl (nm:ByteArray) (ss:List ByteArray) (fs:List NodeD):Int:=if 0≤vL nm ss fs then 1 else 0
def zFe (nm:ByteArray) (ss:List ByteArray) (fs:List NodeD):ByteArray:=if 0≤vL nm ss fs then zN0 (fs.getD (vL nm ss fs).toNat default).subs else ⟨#[]⟩
def zB0 (fs:List NodeD) (e:EvD):EvD :=
 if e.kind=1 then ⟨e.kind,e.name,e.subs,zAA fs e.name e.subs,zF0 e.name e.subs fs⟩
 else if e.kind=4 then ⟨e.kind,e.name,e.subs,e.val,zF0 e.name e.subs fs⟩
 else if e.kind=5 then ⟨e.kind,e.name,e.subs,wM e.name e.subs (decide (e.n<0)) fs,e.n⟩
 else ⟨e.kind,e.name,e.subs,zFe e.name e.subs fs,zHl e.name e.subs fs⟩
def yG (e:EvD):ChgD:=⟨if e.kind=3 then 2 else 1,e.name,e.subs,e.val⟩
def yD (fs:List NodeD) (e:EvD):Int × List NodeD:=if uB e=true then doB fs (yG e) else if vX (zB0 fs e) e=true then (0,fs) else (5,fs)
def yI:List NodeD→List EvD→Nat→Int × Nat × List NodeD
 | fs,[],_=>(0,0,fs)
 | fs,e::r,i=>if (yD fs e).1=0 then yI (yD fs e).2 r (i+1) else ((yD fs e).1,i,[])
theorem NodeD.ext_ {a b:NodeD} (h0:a.name=b.name) (h1:a.subs=b.subs) (h2:a.val=b.val):a=b:=by
 cases a;cases b;simp only at h0 h1 h2;subst h0 h1 h2;rfl
instance decNodeD:DecidableEq NodeD:=fun a b=>decidable_of_iff (a.name=b.name∧a.subs=b.subs∧a.val=b.val) ⟨fun ⟨h0,h1,h2⟩=>NodeD.ext_ h0 h1 h2,fun h=>by subst h;exact⟨rfl,rfl,rfl⟩⟩
structure BatD where
 job:Int
 evs:List EvD
deriving Inhabited
noncomputable def batB (b:BatD):Bool:=decide (1≤b.job∧b.job≤4)&&notesB b.evs
noncomputable def batsB (l:List BatD):Bool:=decide (l.length≤400)&&l.all batB
def vM:List NodeD→List BatD→Nat→Int × Nat × List NodeD
 | fs,[],_=>(0,0,fs)
 | fs,b::r,i=>if (yI fs b.evs 0).1=0 then vM (yI fs b.evs 0).2.2 r (i+1) else ((yI fs b.evs 0).1,i,[])
noncomputable def serB (fs:List NodeD) (l:List BatD) (gs:List NodeD):Bool:=xA fs&&(batsB l&&(xA gs&&(decide ((vM fs l 0).1=0)&&decide ((vM fs l 0).2.2=gs))))
end Go.Proofs.YtgmaamnofhmecaaGreatDoor
namespace Go.Proofs.YtgmaamnofhmecaaGreatDoor
open Go.RowKit
set_option linter.unusedVariables false
def zKQ (d:NodeD):Prop:=(∀s∈d.subs,uP s)∧okV d.val
def uE (fs:List NodeD):Prop:=∀d∈fs,zKQ d
def zCh (e:EvD):Prop:=(∀s∈e.subs,uP s)∧okV e.val
def zAY (l:List EvD):Prop:=∀e∈l,zCh e
theorem zIW {fs:List NodeD} {nm:ByteArray} {ss:List ByteArray} {v:ByteArray} (h:uE fs) (hs:∀s∈ss,uP s) (hv:okV v):uE (vT fs nm ss v).2:=by
 unfold vT;split
 · exact fun d hd=>by cases hd
 · intro d hd;have hd:d∈uX fs nm ss v:=hd;unfold uX at hd;rcases List.mem_append.1 hd with h1 | h1
   · exact h d (List.mem_of_mem_take h1)
   · rcases List.mem_cons.1 h1 with h2 | h2
     · subst h2;exact⟨hs,hv⟩
     · exact h d (List.mem_of_mem_drop h2)
theorem zHF {fs:List NodeD} {nm:ByteArray} {ss:List ByteArray} (h:uE fs):uE (uT fs nm ss):=fun d hd=>h d (List.mem_filter.1 hd).1
theorem zJO {fs:List NodeD} {e:EvD} (h:uE fs) (he:zCh e):uE (doB fs (yG e)).2:=by
 unfold doB;split
 · exact zIW h he.1 he.2
 · exact zHF h
theorem zAI {fs:List NodeD} {e:EvD} (h:uE fs) (he:zCh e):uE (yD fs e).2:=by
 unfold yD;split
 · exact zJO h he
 · split <;> exact h
theorem zCg:∀(l:List EvD) (fs:List NodeD) (i:Nat),uE fs→zAY l→uE (yI fs l i).2.2
 | [],fs,i,h,_=>h
 | e::r,fs,i,h,he=>by
   unfold yI;split
   · exact zCg r _ _ (zAI h (he e (by simp))) (fun x hx=>he x (List.mem_cons_of_mem _ hx))
   · exact fun d hd=>by cases hd
theorem wZ {e:EvD} (h:noteB e=true):yH e=true∧resB e=true:=by
 unfold noteB at h;rw[Bool.and_eq_true]at h;exact h
theorem zGe {e:EvD} (h:noteB e=true) (ht:uB e=true):vR (yG e)=true:=by
 obtain⟨h1,h2⟩:=wZ h;unfold uB at ht;rw[Bool.or_eq_true,decide_eq_true_eq,decide_eq_true_eq]at ht;unfold yH at h1;rw[if_neg (by omega),Bool.and_eq_true]at h1;unfold resB at h2;rw[if_neg (by omega),if_neg (by omega),if_neg (by omega),if_neg (by omega)]at h2;have hth:wD e.name e.subs=true:=by unfold wD;rw[h1.1,h1.2];rfl
 unfold vR yG;dsimp only;rw[hth];rcases ht with hk | hk
 · rw[if_pos hk,Bool.and_eq_true,decide_eq_true_eq,decide_eq_true_eq]at h2;rw[if_neg (by omega)];simp[h2.2]
 · rw[if_neg (by omega),Bool.and_eq_true,Bool.and_eq_true,decide_eq_true_eq,decide_eq_true_eq,decide_eq_true_eq]at h2;rw[if_pos hk,decide_eq_true h2.2.2];simp
theorem zKr {fs:List NodeD} {e:EvD} (ht:xA fs=true) (h:noteB e=true) (hk:uB e=true) (h0:(doB fs (yG e)).1=0):xA (doB fs (yG e)).2=true:=by
 have h1:uJ fs (yG e)=doB fs (yG e):=by unfold uJ;rw[ht,zGe h hk];rfl
 rw[←h1]at h0 ⊢;exact zDH h0
theorem zBp {fs:List NodeD} {e:EvD} (ht:xA fs=true) (h:noteB e=true) (h0:(yD fs e).1=0):xA (yD fs e).2=true:=by
 by_cases hk:uB e=true
 · have e1:yD fs e=doB fs (yG e):=by unfold yD;rw[if_pos hk]
   rw[e1]at h0 ⊢;exact zKr ht h hk h0
 · unfold yD at h0 ⊢;rw[if_neg hk]at h0 ⊢;split <;> exact ht
theorem uR {l:List EvD} (h:notesB l=true):l.length≤60∧∀e∈l,noteB e=true:=by
 unfold notesB at h;rw[Bool.and_eq_true,decide_eq_true_eq,List.all_eq_true]at h;exact h
theorem zBx:∀(l:List EvD) (fs:List NodeD) (i:Nat),xA fs=true→(∀e∈l,noteB e=true)→(yI fs l i).1=0→xA (yI fs l i).2.2=true
 | [],fs,i,h,_,_=>h
 | e::r,fs,i,h,he,h0=>by
   unfold yI at h0 ⊢;split
   · next ha=>rw[if_pos ha]at h0;exact zBx r _ _ (zBp h (he e (by simp)) ha) (fun x hx=>he x (List.mem_cons_of_mem _ hx)) h0
   · next ha=>rw[if_neg ha]at h0;exact absurd h0 ha
theorem zAJ {l:List BatD} (h:batsB l=true):l.length≤400∧∀b∈l,(1≤b.job∧b.job≤4)∧notesB b.evs=true:=by
 unfold batsB at h;rw[Bool.and_eq_true,decide_eq_true_eq,List.all_eq_true]at h;refine⟨h.1,fun b hb=>?_⟩;have h2:=h.2 b hb;unfold batB at h2;rw[Bool.and_eq_true,decide_eq_true_eq]at h2;exact h2
theorem zDT:∀(l:List BatD) (fs:List NodeD) (i:Nat),xA fs=true→(∀b∈l,notesB b.evs=true)→(vM fs l i).1=0→xA (vM fs l i).2.2=true
 | [],fs,i,h,_,_=>h
 | b::r,fs,i,h,he,h0=>by
   unfold vM at h0 ⊢;split
   · next ha=>rw[if_pos ha]at h0;exact zDT r _ _ (zBx b.evs fs 0 h (uR (he b (by simp))).2 ha) (fun x hx=>he x (List.mem_cons_of_mem _ hx)) h0
   · next ha=>rw[if_neg ha]at h0;exact absurd h0 ha
end Go.Proofs.YtgmaamnofhmecaaGreatDoor
