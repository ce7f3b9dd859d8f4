import Derived.Test.YtgmaamnofhmecaaGreatDoorZ23
import Derived.Test.YtgmaamnofhmecaaGreatDoorZ15
import Derived.Test.YtgmaamnofhmecaaGreatDoorZ18
set_option maxHeartbeats 4000000
open Go.Lib renaming hid → zh
namespace Go.Proofs.YtgmaamnofhmecaaGreatDoor
open Go.RowKit
set_option linter.unusedVariables false
set_option maxRecDepth 100000 in
theorem zGH (v:ByteArray) (ss:List ByteArray) (w:World) (htab:yH w) (hv:zDG v ss) (hz:v.size≤1048576) :
 Calls Tryz.prog 221 #[.string v] w (xX v w):=by
 obtain⟨i0,hi,hz0,hz1,hz2⟩:=info_parts zEn;have HGO:=zh (zGf hv);have HPO:=zh hv;obtain⟨hsb,hpu,rfl⟩:=hv;have hsb2:=hsb;unfold yC at hsb;rw[Bool.and_eq_true,decide_eq_true_eq,List.all_eq_true]at hsb;obtain⟨hn4,hall⟩:=hsb;have HSB:Hid (∀s∈ss,0<s.size∧s.size≤24):=fun s hs=>by have h:=hall s hs;unfold vG at h;rw[Bool.and_eq_true,decide_eq_true_eq,decide_eq_true_eq]at h;omega
 have HZ:Hid (∀s∈ss,s.size≤1048576):=fun s hs=>by have:=(HSB.out s hs).2;omega
 have HPU:=zh hpu;have HOK:=zh hsb2;have HDR:Hid (∀k,k<ss.length→(ss.drop k).flatMap vD=vD (ss.getD k ByteArray.empty)++(ss.drop (k+1)).flatMap vD):=fun k h=>by rw[List.drop_eq_getElem_cons h,List.flatMap_cons,List.getD_eq_getElem?_getD,List.getElem?_eq_getElem h];rfl
 have HMEM:Hid (∀k,k<ss.length→ss.getD k ByteArray.empty∈ss):=fun k h=>Own.mem_of_getD ss k _ h;have HPUT:Hid ((xN ss).data.toList=ss.flatMap vD):=zAS ss;have HT:=zh htab;generalize hN:ss.length=n at *;have HLN:=zh hN;clear hall hsb2 hpu hN;obtain⟨W0,hW0⟩:∃W0,W0=w.alloc (.cells #[] 9):=⟨_,rfl⟩;have HU0:Hid (Own.SubO W0 w.heap.size (.slice (some ⟨w.heap.size,0,none⟩) 0 0) []):=by subst hW0;exact World.ownsRow_lit (e:=9) (size:=1) w #[] 0 (Nat.le_refl _) (by omega) rfl
 have HB0:Hid (Below w.heap.size w W0):=by subst hW0;exact Below.new _ _
 generalize hV:xN ss=V at *;have HV:=zh hV;clear hV;go_enter Tryz.func221,Tryz.ntmps221;go_wp2_with fail;rw[←hW0];clear hW0;go_loopw [4,5] (fun o l wr=>∃(k:Nat) (L:ByteArray),k≤n∧l=.string L∧Hid (L.data.toList=(ss.drop k).flatMap vD)∧L.size≤1048576∧Hid (Own.SubO wr w.heap.size o (ss.take k))∧Hid (Below w.heap.size w wr)) (fun o _ _=>n-zFz o);case atStart=>exact⟨0,V,Nat.zero_le _,rfl,HPUT.out,hz,HU0.out,HB0.out⟩
 case round =>
  obtain⟨k,L,hk,rfl,HL,hLz,HU,HB⟩:=hrel;have hszr:=HB.out.size;obtain⟨S,cap,rfl,hcap,_⟩:=Own.SubO.strs HU.out;have HTL:Hid ((ss.take k).length=k):=by unfold Hid;rw[List.length_take,HLN.out];omega
  rw[HTL.out]at hcap HU ⊢;by_cases hlt:k<n
  · have hls:=HDR.out k hlt;obtain⟨c,r,hc1,_⟩:=zBU (ss.getD k ByteArray.empty);have hne:L.toList.isEmpty=false:=by rw[yA,HL.out,hls,hc1];rfl
    have hne2:(!L.toList.isEmpty)=true:=by rw[hne];rfl
    have hk4:(k:Int)≤4:=by omega
    have hmem:=HMEM.out k hlt;have HSP:=HPU.out _ hmem;have HSZp:=(HSB.out _ hmem).1;have HTK:Hid (ss.take (k+1)=ss.take k++[ss.getD k ByteArray.empty]):=by unfold Hid;rw[List.take_succ_eq_append_getElem (by rw[HLN.out];exact hlt),List.getD_eq_getElem?_getD,List.getElem?_eq_getElem (by rw[HLN.out];exact hlt)];rfl
    have HSZ:Hid (((ss.drop (k+1)).flatMap vD).length≤1048576):=by unfold Hid;have h2:=congrArg List.length (HL.out.trans hls);rw[List.length_append,Array.length_toList]at h2;have h3:L.data.size=L.size:=rfl;omega
    have hLl:L.data.toList.length=L.size:=by rw[Array.length_toList];rfl
    have hsel:L.size=(vD (ss.getD k ByteArray.empty)).length+((ss.drop (k+1)).flatMap vD).length:=by rw[←hLl,HL.out,hls,List.length_append]
    have hv0:0<L.size:=by have h2:=congrArg List.length hc1;rw[List.length_cons]at h2;omega
    have hx1:(L.extract 1 L.size).size≤1048576:=by rw[ByteArray.size_extract];omega
    have hLs:=HL.out.trans hls;clear hmem;generalize hs0:ss.getD k ByteArray.empty=s at *;generalize hD:(ss.drop (k+1)).flatMap vD=D at *;have HD:=zh hD;clear hD hs0;by_cases hcn:vB s=true
    · have hse:vD s=1::be8 (vU s):=by unfold vD;rw[if_pos hcn]
      obtain⟨hn1,hn2,hn3⟩:=zCP s;have hb0:L[0]'hv0=1:=yN hLs hv0 (by rw[hse];rfl);have hb1:(((L[0]'hv0).toNat:Int)==(1:Int))=true:=by rw[hb0];rfl
      have HK1:=zh (fun W (hW:Below w.heap.size w W)=>zDW (L.extract 1 L.size) (vU s) D W (wA HT.out hW) (by
       rw[wU,hLs,hse,List.take_of_length_le (by
        have h2:=congrArg List.length (hLs.trans (congrArg (·++D) hse));rw[List.length_drop];rw[hLl]at h2
        omega)]
       rfl) hn1 hn2 hx1)
      have HTX:Hid ((⟨(uG ((vU s:Int)-1000000000000000000)).toArray⟩:ByteArray)=s):=by unfold Hid;apply zEK;have hc2:=hcn;unfold vB at hc2;rw[decide_eq_true_eq]at hc2;rw[show(vU s:Int)-1000000000000000000=xH s.data.toList by omega];simpa using hc2
      rw[HTX.out]at HK1;have h1L:(1:Int)≤(L.size:Int):=by omega
      clear hls hc1 hLl hsel hLs hb0 hse hn1 hn2 hn3 hcn;go_wp2_with fail;refine(HK1.out _ HB.out).mono ?_;rintro e w1 ⟨t,rfl,ht,hb1'⟩;have HB1:=zh (HB.out.later hb1');have HT:=zh ht;have hU1:=Own.own_later HU.out hb1';rw[HTL.out]at hU1;have HRr:Hid (∀o,(w1.alloc o).ownsRow w.heap.size 9 1 (.slice S k cap) k ((ss.take k).map Value.string)):=fun o=>Own.own_later hU1 (Below.new w1 o);have hsz1:=HB1.out.size;have htz:t.size≤1048576:=by have h2:=congrArg List.length ht;rw[Array.length_toList]at h2;have h3:t.data.size=t.size:=rfl;have:=HSZ.out;omega
      clear hb1' ht hU1 hne hne2;go_wp2_with (at_builtin;refine wpList_append_own _ rfl (.tmp 39) (.tmp 41) 27 rfl w.heap.size 9 i0 _ 1 16 Tryz.underlying27 hi hz0 hz1 hz2 rfl (by decide) _ k _ rfl (HRr.out _) ⟨_,0,none⟩ 1 1 [.string s] rfl rfl ?c1 ?c2 ?c3 ?c4 ?c5 ?_);case c1=>exact cell_one_new _ _ _
      case c2=>simp[Value.oneCell']
      case c3=>unfold maxLen;omega
      case c4=>omega
      case c5=>simp;omega
      intro v4 w4 hown4 hg4 _;rw[←List.map_take]at hown4;have HU4:=zh (zBT hown4 HTL.out.symm);rw[←HTK.out]at HU4;have HB4:Hid (Below w.heap.size w w4):=(HB1.out.later (Below.new _ _)).grown hg4 (by simp;omega) (fun g hg=>((HRr.out (.cells #[] 0)).lt g hg).1);obtain⟨S4,cap4,e4,_,_⟩:=Own.SubO.strs HU4.out;have hl4:(ss.take (k+1)).length=k+1:=by rw[List.length_take,HLN.out];omega
      rw[hl4]at e4;subst e4;clear hown4 hg4;go_wp2_with fail;go_roundw;case rel=>exact⟨k+1,t,by omega,rfl,by unfold Hid;rw[HD.out];exact HT.out,htz,HU4.out,HB4.out⟩
      case measure=>simp[zFz];omega
    · have hse:vD s=2::(s.data.toList++[0,0]):=by unfold vD;rw[if_neg hcn]
      have hb0:L[0]'hv0=2:=yN hLs hv0 (by rw[hse];rfl);have hb1:(((L[0]'hv0).toNat:Int)==(1:Int))=false:=by rw[hb0];rfl
      have hb2:(((L[0]'hv0).toNat:Int)==(2:Int))=true:=by rw[hb0];rfl
      have HK1:=zh (fun W=>zDV (L.extract 1 L.size) s D W (by
       rw[wU,hLs,hse,List.take_of_length_le (by
        have h2:=congrArg List.length (hLs.trans (congrArg (·++D) hse));rw[List.length_drop];rw[hLl]at h2
        omega)]
       simp) HSP hx1)
      have h1L:(1:Int)≤(L.size:Int):=by omega
      clear hls hc1 hLl hsel hLs hb0 hse hcn;go_wp2_with fail;refine(HK1.out _).mono ?_;rintro e w1 ⟨t,rfl,ht,hb1'⟩;have HB1:=zh (HB.out.later hb1');have HT:=zh ht;have hU1:=Own.own_later HU.out hb1';rw[HTL.out]at hU1;have HRr:Hid (∀o,(w1.alloc o).ownsRow w.heap.size 9 1 (.slice S k cap) k ((ss.take k).map Value.string)):=fun o=>Own.own_later hU1 (Below.new w1 o);have hsz1:=HB1.out.size;have htz:t.size≤1048576:=by have h2:=congrArg List.length ht;rw[Array.length_toList]at h2;have h3:t.data.size=t.size:=rfl;have:=HSZ.out;omega
      clear hb1' ht hU1 hne hne2;go_wp2_with (at_builtin;refine wpList_append_own _ rfl (.tmp 39) (.tmp 41) 27 rfl w.heap.size 9 i0 _ 1 16 Tryz.underlying27 hi hz0 hz1 hz2 rfl (by decide) _ k _ rfl (HRr.out _) ⟨_,0,none⟩ 1 1 [.string s] rfl rfl ?c1 ?c2 ?c3 ?c4 ?c5 ?_);case c1=>exact cell_one_new _ _ _
      case c2=>simp[Value.oneCell']
      case c3=>unfold maxLen;omega
      case c4=>omega
      case c5=>simp;omega
      intro v4 w4 hown4 hg4 _;rw[←List.map_take]at hown4;have HU4:=zh (zBT hown4 HTL.out.symm);rw[←HTK.out]at HU4;have HB4:Hid (Below w.heap.size w w4):=(HB1.out.later (Below.new _ _)).grown hg4 (by simp;omega) (fun g hg=>((HRr.out (.cells #[] 0)).lt g hg).1);obtain⟨S4,cap4,e4,_,_⟩:=Own.SubO.strs HU4.out;have hl4:(ss.take (k+1)).length=k+1:=by rw[List.length_take,HLN.out];omega
      rw[hl4]at e4;subst e4;clear hown4 hg4;go_wp2_with fail;go_roundw;case rel=>exact⟨k+1,t,by omega,rfl,by unfold Hid;rw[HD.out];exact HT.out,htz,HU4.out,HB4.out⟩
      case measure=>simp[zFz];omega
  · obtain rfl:k=n:=by omega
    have hemp:L.toList.isEmpty=true:=by rw[yA,HL.out,List.drop_of_length_le (by rw[HLN.out];exact Nat.le_refl _)];rfl
    have hemp2:(!L.toList.isEmpty)=false:=by rw[hemp];rfl
    have HTA:Hid (ss.take k=ss):=List.take_of_length_le (by rw[HLN.out];exact Nat.le_refl _);rw[HTA.out]at HU;obtain⟨S',cap',e',hcap',hS⟩:=Own.SubO.strs HU.out;rw[HLN.out]at e' hS;injection e' with e1 _ e3;subst e1 e3;have HK1:=zh (fun W (hW:Below wr.heap.size wr W)=>xP S k cap ss W (hS.later hW) (by omega) HZ.out);have HK2:=zh (fun W (hW:Below wr.heap.size wr W)=>zCx S k cap ss W (hS.later hW) HPU.out HOK.out (wA HT.out (HB.out.later hW)));rw[HOK.out]at HK1;have HV2:Hid ((⟨(ss.flatMap vD).toArray⟩:ByteArray)=V):=HV.out;rw[HV2.out]at HK2;clear hS;go_wp2_with fail;refine(HK1.out _ (Below.refl _ _)).mono ?_;rintro e w1 ⟨rfl,rfl⟩;go_wp2_with fail;refine(HK2.out _ (Below.refl _ _)).mono ?_;rintro e w2 ⟨rfl,hb2⟩;have HB2:=zh hb2;clear hb2;go_wp2_with fail
    go_ret2
    refine⟨_,ss,?_,fun _=>HPO.out,Own.own_later HU.out HB2.out,HB.out.later HB2.out⟩;rw[HGO.out];rfl
set_option maxRecDepth 100000 in
theorem zGI (v:ByteArray) (w:World) (hv:zAU v) (hz:v.size≤1048576) :
 Calls Tryz.prog 221 #[.string v] w (xX v w):=by
 have HGO:=zh (zEq hv);have hbad:=hv;obtain⟨c,r,he,h1,h2⟩:=hbad;have hv0:0<v.size:=by have:=congrArg List.length he;rw[Array.length_toList]at this;show 0<v.data.size;rw[this];simp
 have h0:v[0]'hv0=c:=yN he hv0 rfl;have hb1:(((v[0]'hv0).toNat:Int)==(1:Int))=false:=by rw[h0];exact beq_eq_false_iff_ne.2 (fun e=>h1 (UInt8.toNat_inj.1 (by rw[show(1:UInt8).toNat=1 from rfl];omega)))
 have hb2:(((v[0]'hv0).toNat:Int)==(2:Int))=false:=by rw[h0];exact beq_eq_false_iff_ne.2 (fun e=>h2 (UInt8.toNat_inj.1 (by rw[show(2:UInt8).toNat=2 from rfl];omega)))
 have hne:v.toList.isEmpty=false:=by obtain⟨c,r,he,_⟩:=hv;rw[yA,he];rfl
 have hne2:(!v.toList.isEmpty)=true:=by rw[hne];rfl
 clear hv he h0 h1 h2;go_enter Tryz.func221,Tryz.ntmps221;go_wp2_with fail;go_loopw [4,5] (fun o l wr=>l=.string v∧o=.slice (some ⟨w.heap.size,0,none⟩) 0 0∧Hid (Below w.heap.size w wr)) (fun _ _ _=>0);case atStart=>exact⟨rfl,rfl,Below.new _ _⟩
 case round =>
  obtain⟨rfl,rfl,HB⟩:=hrel;go_wp2_with fail
  go_ret2
  refine⟨_,[],?_,fun h=>absurd (HGO.out.symm.trans h) (by decide),Own.sub_nil _ _,HB.out⟩;rw[HGO.out];rfl
theorem zGJ (v:ByteArray) (w:World) (htab:yH w) (hv:okV v) (hz:v.size≤1048576) :
 Calls Tryz.prog 221 #[.string v] w (xX v w):=by
 rcases hv with ⟨ss,h⟩ | h
 · exact zGH v ss w htab h hz
 · exact zGI v w h hz
end Go.Proofs.YtgmaamnofhmecaaGreatDoor
namespace Go.Proofs.YtgmaamnofhmecaaGreatDoor
open Go.RowKit
def vW (nm:ByteArray) (ss:List ByteArray) (d:NodeD) (out:Int):Int:=if inN nm ss d=true then (if d.subs.length=ss.length then out+1 else if out<10 then out+10 else out) else out
def yF (nm:ByteArray) (ss:List ByteArray) (fs:List NodeD):Int:=fs.foldl (fun out d=>vW nm ss d out) 0
def zGo (fs:List NodeD) (nm:ByteArray) (ss:List ByteArray):Int:=if (xA fs&&wD nm ss)=true then yF nm ss fs else 0
end Go.Proofs.YtgmaamnofhmecaaGreatDoor
namespace Go.Proofs.YtgmaamnofhmecaaGreatDoor
open Go.RowKit
set_option linter.unusedVariables false
structure EvD where
 kind:Int
 name:ByteArray
 subs:List ByteArray
 val:ByteArray
 n:Int
deriving Inhabited
def zAu (a b:EvD):Bool:=decide (a.kind=b.kind)&&(decide (a.name=b.name)&&(decide (a.subs=b.subs)&&(decide (a.val=b.val)&&decide (a.n=b.n))))
def wI (e:EvD):Bool:=decide (e.kind=1)||(decide (e.kind=4)||(decide (e.kind=5)||decide (e.kind=6)))
def wC (e:EvD):Bool:=decide (e.kind=2)||decide (e.kind=3)
def wV (n:Int):Bool:=decide (n=0)||(decide (n=1)||(decide (n=10)||decide (n=11)))
noncomputable def resB (e:EvD):Bool :=
 if e.kind=1 then wV e.n&&(decide (e.val.size≤64)&&(decide (e.n=1∨e.n=11)||decide (e.val=⟨#[]⟩)))
 else if e.kind=4 then wV e.n&&decide (e.val=⟨#[]⟩)
 else if e.kind=5 then (decide (e.n=1)||decide (e.n=-1))&&(decide (e.val=⟨#[]⟩)||vG e.val)
 else if e.kind=6 then (decide (e.n=1)&&getOkB e.val)||(decide (e.n=0)&&decide (e.val=⟨#[]⟩))
 else if e.kind=2 then decide (e.n=0)&&decide (e.val.size≤64)
 else decide (e.kind=3)&&(decide (e.n=0)&&decide (e.val=⟨#[]⟩))
def xC (ss:List ByteArray):ByteArray:=ss.getD (ss.length-1) ByteArray.empty
def vN (ss:List ByteArray):Bool:=decide (0<ss.length)&&(decide (ss.length≤4)&&(yC (ss.take (ss.length-1))&&(decide (xC ss=⟨#[]⟩)||vG (xC ss))))
def wH (e:EvD):Bool:=xF e.name&&(if e.kind=5 then vN e.subs else yC e.subs)
noncomputable def noteB (e:EvD):Bool:=wH e&&resB e
noncomputable def notesB (l:List EvD):Bool:=decide (l.length≤60)&&l.all noteB
def zAB (fs:List NodeD) (nm:ByteArray) (ss:List ByteArray):ByteArray:=if vJ fs nm ss=true then (fs.getD (atN fs nm ss) default).val else ⟨#[]⟩
def zBj (nm:ByteArray) (ss:List ByteArray) (back:Bool) (d:NodeD) (best:ByteArray):ByteArray :=
 if (inN nm (ss.take (ss.length-1)) d&&decide (ss.length≤d.subs.length))=true then
  (if (if back=true then (decide (xC ss=⟨#[]⟩)||uA (d.subs.getD (ss.length-1) ByteArray.empty) (xC ss))&&(decide (best=⟨#[]⟩)||uA best (d.subs.getD (ss.length-1) ByteArray.empty))
    else (decide (xC ss=⟨#[]⟩)||uA (xC ss) (d.subs.getD (ss.length-1) ByteArray.empty))&&(decide (best=⟨#[]⟩)||uA (d.subs.getD (ss.length-1) ByteArray.empty) best))=true
  then d.subs.getD (ss.length-1) ByteArray.empty else best)
 else best
def zN0 (nm:ByteArray) (ss:List ByteArray) (back:Bool) (fs:List NodeD):ByteArray:=fs.foldl (fun best d=>zBj nm ss back d best) ⟨#[]⟩
def zBc (nm:ByteArray) (ss:List ByteArray) (d:NodeD):Bool:=decide (d.name=nm)&&uE ss d.subs
def yM (nm:ByteArray) (ss:List ByteArray) (fs:List NodeD):Int:=wJ (zBc nm ss) fs 0
def zGS (nm:ByteArray) (ss:List ByteArray) (fs:List NodeD):Int:=if 0≤yM nm ss fs then 1 else 0
def zEO (nm:ByteArray) (ss:List ByteArray) (fs:List NodeD):ByteArray:=if 0≤yM nm ss fs then xN (fs.getD (yM nm ss fs).toNat default).subs else ⟨#[]⟩
def xB (fs:List NodeD) (e:EvD):EvD :=
 if e.kind=1 then ⟨e.kind,e.name,e.subs,zAB fs e.name e.subs,yF e.name e.subs fs⟩
 else if e.kind=4 then ⟨e.kind,e.name,e.subs,e.val,yF e.name e.subs fs⟩
 else if e.kind=5 then ⟨e.kind,e.name,e.subs,zN0 e.name e.subs (decide (e.n<0)) fs,e.n⟩
 else ⟨e.kind,e.name,e.subs,zEO e.name e.subs fs,zGS e.name e.subs fs⟩
def xG (e:EvD):ChgD:=⟨if e.kind=3 then 2 else 1,e.name,e.subs,e.val⟩
def zE0 (fs:List NodeD) (e:EvD):Int × List NodeD:=if wC e=true then doB fs (xG e) else if zAu (xB fs e) e=true then (0,fs) else (5,fs)
def uJ:List NodeD→List EvD→Nat→Int × Nat × List NodeD
 | fs,[],_=>(0,0,fs)
 | fs,e::r,i=>if (zE0 fs e).1=0 then uJ (zE0 fs e).2 r (i+1) else ((zE0 fs e).1,i,[])
theorem NodeD.ext_ {a b:NodeD} (h0:a.name=b.name) (h1:a.subs=b.subs) (h2:a.val=b.val):a=b:=by
 cases a;cases b;simp only at h0 h1 h2;subst h0 h1 h2;rfl
instance decNodeD:DecidableEq NodeD:=fun a b=>decidable_of_iff (a.name=b.name∧a.subs=b.subs∧a.val=b.val) ⟨fun ⟨h0,h1,h2⟩=>NodeD.ext_ h0 h1 h2,fun h=>by subst h;exact⟨rfl,rfl,rfl⟩⟩
structure BatD where
 job:Int
 evs:List EvD
deriving Inhabited
noncomputable def batB (b:BatD):Bool:=decide (1≤b.job∧b.job≤4)&&notesB b.evs
noncomputable def batsB (l:List BatD):Bool:=decide (l.length≤400)&&l.all batB
def yG:List NodeD→List BatD→Nat→Int × Nat × List NodeD
 | fs,[],_=>(0,0,fs)
 | fs,b::r,i=>if (uJ fs b.evs 0).1=0 then yG (uJ fs b.evs 0).2.2 r (i+1) else ((uJ fs b.evs 0).1,i,[])
noncomputable def serB (fs:List NodeD) (l:List BatD) (gs:List NodeD):Bool:=xA fs&&(batsB l&&(xA gs&&(decide ((yG fs l 0).1=0)&&decide ((yG fs l 0).2.2=gs))))
end Go.Proofs.YtgmaamnofhmecaaGreatDoor
namespace Go.Proofs.YtgmaamnofhmecaaGreatDoor
open Go.RowKit
set_option linter.unusedVariables false
def zKA (d:NodeD):Prop:=(∀s∈d.subs,yQ s)∧okV d.val
def xD (fs:List NodeD):Prop:=∀d∈fs,zKA d
def zCa (e:EvD):Prop:=(∀s∈e.subs,yQ s)∧okV e.val
def uW (l:List EvD):Prop:=∀e∈l,zCa e
theorem zIB {fs:List NodeD} {nm:ByteArray} {ss:List ByteArray} {v:ByteArray} (h:xD fs) (hs:∀s∈ss,yQ s) (hv:okV v):xD (zU0 fs nm ss v).2:=by
 unfold zU0;split
 · exact fun d hd=>by cases hd
 · intro d hd;have hd:d∈zY0 fs nm ss v:=hd;unfold zY0 at hd;rcases List.mem_append.1 hd with h1 | h1
   · exact h d (List.mem_of_mem_take h1)
   · rcases List.mem_cons.1 h1 with h2 | h2
     · subst h2;exact⟨hs,hv⟩
     · exact h d (List.mem_of_mem_drop h2)
theorem zHl {fs:List NodeD} {nm:ByteArray} {ss:List ByteArray} (h:xD fs):xD (yU fs nm ss):=fun d hd=>h d (List.mem_filter.1 hd).1
theorem zJu {fs:List NodeD} {e:EvD} (h:xD fs) (he:zCa e):xD (doB fs (xG e)).2:=by
 unfold doB;split
 · exact zIB h he.1 he.2
 · exact zHl h
theorem zAJ {fs:List NodeD} {e:EvD} (h:xD fs) (he:zCa e):xD (zE0 fs e).2:=by
 unfold zE0;split
 · exact zJu h he
 · split <;> exact h
theorem zAX:∀(l:List EvD) (fs:List NodeD) (i:Nat),xD fs→uW l→xD (uJ fs l i).2.2
 | [],fs,i,h,_=>h
 | e::r,fs,i,h,he=>by
   unfold uJ;split
   · exact zAX r _ _ (zAJ h (he e (by simp))) (fun x hx=>he x (List.mem_cons_of_mem _ hx))
   · exact fun d hd=>by cases hd
theorem uZ {e:EvD} (h:noteB e=true):wH e=true∧resB e=true:=by
 unfold noteB at h;rw[Bool.and_eq_true]at h;exact h
theorem zFL {e:EvD} (h:noteB e=true) (ht:wC e=true):yS (xG e)=true:=by
 obtain⟨h1,h2⟩:=uZ h;unfold wC at ht;rw[Bool.or_eq_true,decide_eq_true_eq,decide_eq_true_eq]at ht;unfold wH at h1;rw[if_neg (by omega),Bool.and_eq_true]at h1;unfold resB at h2;rw[if_neg (by omega),if_neg (by omega),if_neg (by omega),if_neg (by omega)]at h2;have hth:wD e.name e.subs=true:=by unfold wD;rw[h1.1,h1.2];rfl
 unfold yS xG;dsimp only;rw[hth];rcases ht with hk | hk
 · rw[if_pos hk,Bool.and_eq_true,decide_eq_true_eq,decide_eq_true_eq]at h2;rw[if_neg (by omega)];simp[h2.2]
 · rw[if_neg (by omega),Bool.and_eq_true,Bool.and_eq_true,decide_eq_true_eq,decide_eq_true_eq,decide_eq_true_eq]at h2;rw[if_pos hk,decide_eq_true h2.2.2];simp
theorem zKb {fs:List NodeD} {e:EvD} (ht:xA fs=true) (h:noteB e=true) (hk:wC e=true) (h0:(doB fs (xG e)).1=0):xA (doB fs (xG e)).2=true:=by
 have h1:xK fs (xG e)=doB fs (xG e):=by unfold xK;rw[ht,zFL h hk];rfl
 rw[←h1]at h0 ⊢;exact zDu h0
theorem zBo {fs:List NodeD} {e:EvD} (ht:xA fs=true) (h:noteB e=true) (h0:(zE0 fs e).1=0):xA (zE0 fs e).2=true:=by
 by_cases hk:wC e=true
 · have e1:zE0 fs e=doB fs (xG e):=by unfold zE0;rw[if_pos hk]
   rw[e1]at h0 ⊢;exact zKb ht h hk h0
 · unfold zE0 at h0 ⊢;rw[if_neg hk]at h0 ⊢;split <;> exact ht
theorem xS {l:List EvD} (h:notesB l=true):l.length≤60∧∀e∈l,noteB e=true:=by
 unfold notesB at h;rw[Bool.and_eq_true,decide_eq_true_eq,List.all_eq_true]at h;exact h
theorem zBw:∀(l:List EvD) (fs:List NodeD) (i:Nat),xA fs=true→(∀e∈l,noteB e=true)→(uJ fs l i).1=0→xA (uJ fs l i).2.2=true
 | [],fs,i,h,_,_=>h
 | e::r,fs,i,h,he,h0=>by
   unfold uJ at h0 ⊢;split
   · next ha=>rw[if_pos ha]at h0;exact zBw r _ _ (zBo h (he e (by simp)) ha) (fun x hx=>he x (List.mem_cons_of_mem _ hx)) h0
   · next ha=>rw[if_neg ha]at h0;exact absurd h0 ha
theorem yR {l:List BatD} (h:batsB l=true):l.length≤400∧∀b∈l,(1≤b.job∧b.job≤4)∧notesB b.evs=true:=by
 unfold batsB at h;rw[Bool.and_eq_true,decide_eq_true_eq,List.all_eq_true]at h;refine⟨h.1,fun b hb=>?_⟩;have h2:=h.2 b hb;unfold batB at h2;rw[Bool.and_eq_true,decide_eq_true_eq]at h2;exact h2
theorem yZ:∀(l:List BatD) (fs:List NodeD) (i:Nat),xA fs=true→(∀b∈l,notesB b.evs=true)→(yG fs l i).1=0→xA (yG fs l i).2.2=true
 | [],fs,i,h,_,_=>h
 | b::r,fs,i,h,he,h0=>by
   unfold yG at h0 ⊢;split
   · next ha=>rw[if_pos ha]at h0;exact yZ r _ _ (zBw b.evs fs 0 h (xS (he b (by simp))).2 ha) (fun x hx=>he x (List.mem_cons_of_mem _ hx)) h0
   · next ha=>rw[if_neg ha]at h0;exact absurd h0 ha
theorem zKC {l:List BatD} {fs:List NodeD} {i:Nat} (h:(yG fs l i).1=0):(yG fs l i).2.1=0:=by
 induction l generalizing fs i with
 | nil=>rfl
 | cons e r ih =>
   unfold yG at h ⊢;split
   · next ha=>rw[if_pos ha]at h;exact ih h
   · next ha=>rw[if_neg ha]at h;exact absurd h ha
theorem zEC:∀(l:List BatD) (fs:List NodeD) (i:Nat),xD fs→(∀b∈l,uW b.evs)→xD (yG fs l i).2.2
 | [],fs,i,h,_=>h
 | b::r,fs,i,h,he=>by
   unfold yG;split
   · exact zEC r _ _ (zAX b.evs fs 0 h (he b (by simp))) (fun x hx=>he x (List.mem_cons_of_mem _ hx))
   · exact fun d hd=>by cases hd
theorem zHU:∀(l m:List BatD) (fs:List NodeD) (i:Nat),(yG fs (l++m) i).1=0→(yG fs l i).1=0∧∀j,(yG (yG fs l i).2.2 m j).1=0∧(yG (yG fs l i).2.2 m j).2.2=(yG fs (l++m) i).2.2
 | [],m,fs,i,h=>⟨rfl,fun j=>by
   have key:∀(m:List BatD) (fs:List NodeD) (i j:Nat),(yG fs m i).1=(yG fs m j).1∧(yG fs m i).2.2=(yG fs m j).2.2:=by
    intro m
    induction m with
    | nil=>exact fun _ _ _=>⟨rfl,rfl⟩
    | cons b r ih =>
      intro fs i j;unfold yG;split
      · exact ih _ _ _
      · exact⟨rfl,rfl⟩
   obtain⟨h1,h2⟩:=key m fs i j
   exact⟨by show(yG fs m j).1=0;rw[←h1];exact h,h2.symm⟩⟩
 | b::r,m,fs,i,h=>by
   rw[List.cons_append]at h;by_cases ha:(uJ fs b.evs 0).1=0
   · have hs:∀(l:List BatD) (i:Nat),yG fs (b::l) i=yG (uJ fs b.evs 0).2.2 l (i+1):=fun l i=>by rw[yG,if_pos ha]
     rw[hs]at h;rw[hs,List.cons_append,hs];exact zHU r m _ _ h
   · rw[yG,if_neg ha]at h;exact absurd h ha
end Go.Proofs.YtgmaamnofhmecaaGreatDoor
