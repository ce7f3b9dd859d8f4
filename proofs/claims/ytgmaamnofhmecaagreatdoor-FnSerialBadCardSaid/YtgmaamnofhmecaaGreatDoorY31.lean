import Derived.Test.YtgmaamnofhmecaaGreatDoorY30
import Derived.Test.YtgmaamnofhmecaaGreatDoorY17
set_option linter.unusedSimpArgs false
namespace Go.Proofs.YtgmaamnofhmecaaGreatDoor
open Go.RowKit
set_option linter.unusedVariables false
def vH (s:ByteArray):Prop:=uP s∧okV s∧1≤s.size∧s.size≤24
def yF (fs:List NodeD):Prop:=∀d∈fs,(∀s∈d.subs,vH s)∧okV d.val
theorem zDG {fs:List NodeD} (h:yF fs):uE fs:=fun d hd=>⟨fun s hs=>((h d hd).1 s hs).1,(h d hd).2⟩
theorem zGB:yF []:=fun d hd=>by cases hd
theorem zGA {fs:List NodeD} {nm:ByteArray} {ss:List ByteArray} {v:ByteArray} (h:yF fs) (hs:∀s∈ss,vH s) (hv:okV v):yF (vT fs nm ss v).2:=by
 unfold vT;split
 · exact fun d hd=>by cases hd
 · intro d hd;have hd:d∈uX fs nm ss v:=hd;unfold uX at hd;rcases List.mem_append.1 hd with h1 | h1
   · exact h d (List.mem_of_mem_take h1)
   · rcases List.mem_cons.1 h1 with h2 | h2
     · subst h2;exact⟨hs,hv⟩
     · exact h d (List.mem_of_mem_drop h2)
theorem zIQ {fs:List NodeD} {nm:ByteArray} {ss:List ByteArray} (h:yF fs):yF (uT fs nm ss):=fun d hd=>h d (List.mem_filter.1 hd).1
theorem zKn {fs:List NodeD} {e:EvD} (h:yF fs) (hs:∀s∈e.subs,vH s) (hv:okV e.val):yF (doB fs (yG e)).2:=by
 unfold doB;split
 · exact zGA h hs hv
 · exact zIQ h
theorem zHB {fs:List NodeD} {e:EvD} (h:yF fs) (hs:∀s∈e.subs,vH s) (hv:okV e.val):yF (uJ fs (yG e)).2:=by
 unfold uJ;split
 · exact zKn h hs hv
 · exact zGB
theorem zFg {fs:List NodeD} {nm:ByteArray} {ss:List ByteArray} {v:ByteArray} (h:yF fs) (hs:∀s∈ss,vH s) (hv:okV v):yF (vP fs nm ss v).2:=by
 unfold vP;split
 · exact zGA h hs hv
 · exact zGB
theorem yJ {v:ByteArray} {c:UInt8} {r:List UInt8} (h:v.data.toList=c::r) (h1:c≠1) (h2:c≠2):okV v:=.inr ⟨c,r,h,h1,h2⟩
instance (s:ByteArray):Decidable (uP s):=inferInstanceAs (Decidable ((0:UInt8) ∉ s.data.toList))
theorem zJv:∀s∈([⟨#[]⟩,⟨#[49]⟩,⟨#[116,119,111]⟩,⟨#[51,46,53]⟩]:List ByteArray),s.size≤16∧okV s:=by
 intro s hs;simp only[List.mem_cons,List.not_mem_nil,or_false]at hs;rcases hs with rfl | rfl | rfl | rfl
 · exact⟨by decide,zCW⟩
 · exact⟨by decide,yJ (c:=49) rfl (by decide) (by decide)⟩
 · exact⟨by decide,yJ (c:=116) rfl (by decide) (by decide)⟩
 · exact⟨by decide,yJ (c:=51) rfl (by decide) (by decide)⟩
theorem zKi:∀s∈([⟨#[]⟩,⟨#[55]⟩,⟨#[110,101,119]⟩,⟨#[52]⟩]:List ByteArray),s.size≤16∧okV s:=by
 intro s hs;simp only[List.mem_cons,List.not_mem_nil,or_false]at hs;rcases hs with rfl | rfl | rfl | rfl
 · exact⟨by decide,zCW⟩
 · exact⟨by decide,yJ (c:=55) rfl (by decide) (by decide)⟩
 · exact⟨by decide,yJ (c:=110) rfl (by decide) (by decide)⟩
 · exact⟨by decide,yJ (c:=52) rfl (by decide) (by decide)⟩
theorem zKE:okV ⟨#[113]⟩:=yJ (c:=113) rfl (by decide) (by decide)
theorem zIP:∀s∈([⟨#[49]⟩,⟨#[50]⟩,⟨#[49,48]⟩,⟨#[120]⟩,⟨#[45,51]⟩,⟨#[98]⟩]:List ByteArray),vH s:=by
 intro s hs;simp only[List.mem_cons,List.not_mem_nil,or_false]at hs;rcases hs with rfl | rfl | rfl | rfl | rfl | rfl
 · exact⟨by decide,yJ (c:=49) rfl (by decide) (by decide),by decide,by decide⟩
 · exact⟨by decide,yJ (c:=50) rfl (by decide) (by decide),by decide,by decide⟩
 · exact⟨by decide,yJ (c:=49) rfl (by decide) (by decide),by decide,by decide⟩
 · exact⟨by decide,yJ (c:=120) rfl (by decide) (by decide),by decide,by decide⟩
 · exact⟨by decide,yJ (c:=45) rfl (by decide) (by decide),by decide,by decide⟩
 · exact⟨by decide,yJ (c:=98) rfl (by decide) (by decide),by decide,by decide⟩
theorem zJI {ss:List ByteArray} {t:ByteArray} (h:∀s∈ss,vH s) (ht:vH t):∀s∈ss++[t],vH s:=fun s hs=>by
 rcases List.mem_append.1 hs with h1 | h1
 · exact h s h1
 · rw[List.mem_singleton]at h1;subst h1;exact ht
structure RawE (d:EvD):Prop where
 nm:d.name.size≤16
 nb:xF d.name=true
 len:d.subs.length≤3
 pure:∀s∈d.subs,uP s∧s.size≤24
theorem RawE.small {d:EvD} (h:RawE d) (hv:d.val.size≤1048576):d.small:=⟨by have:=h.nm;omega,⟨by have:=h.len;omega,fun s hs=>by have:=(h.pure s hs).2;omega⟩,hv⟩
def yY (d:EvD):Prop:=okE d∧zCh d
theorem RawE.good {d:EvD} (h:RawE d) (hv:d.val.size≤1048576) (ho:okV d.val):yY d:=⟨⟨h.small hv,ho⟩,fun s hs=>(h.pure s hs).1,ho⟩
theorem zIu (s:ByteArray):(vD s).length≤s.size+9:=by
 unfold vD;split
 · rw[List.length_cons,wL];omega
 · rw[List.length_cons,List.length_append];have:s.data.toList.length=s.size:=rfl;simp only[List.length_cons,List.length_nil];omega
theorem zGz:∀(ss:List ByteArray) (m:Nat),(∀s∈ss,s.size≤m)→(ss.flatMap vD).length≤ss.length*(m+9)
 | [],m,_=>by simp
 | s::r,m,h=>by have h1:=zGz r m (fun t ht=>h t (List.mem_cons_of_mem _ ht));have h2:=zIu s;have h3:=h s (by simp);rw[List.flatMap_cons,List.length_append,List.length_cons,Nat.add_mul,Nat.one_mul];omega
theorem zHn {ss:List ByteArray} (h:ss.length≤4) (hs:∀s∈ss,s.size≤24):(zN0 ss).size≤1048576:=by
 have h1:=zGz ss 24 hs;have h2:(zN0 ss).size=(ss.flatMap vD).length:=by have:(zN0 ss).size=(zN0 ss).data.toList.length:=rfl;rw[this,zAS]
 rw[h2];have h3:ss.length*(24+9)≤4*33:=Nat.mul_le_mul_right _ h;omega
def zAz (v:ByteArray):Prop:=okV v∧v.size≤1048576
theorem wS:zAz ⟨#[]⟩:=⟨zCW,by decide⟩
theorem zEH {fs:List NodeD} (k:Nat):fs.getD k default∈fs∨fs.getD k default=default:=by
 rw[List.getD_eq_getElem?_getD];by_cases h:k<fs.length
 · rw[List.getElem?_eq_getElem h];exact .inl (List.getElem_mem h)
 · rw[List.getElem?_eq_none (by omega)];exact .inr rfl
theorem zEx {fs:List NodeD} (ht:xA fs=true) (hf:yF fs) {d:NodeD} (h:d∈fs):zAz d.val∧xC d.subs=true∧∀s∈d.subs,vH s:=by
 have h1:=(zC0 ht).2 d h;have h2:=(tree_iff.1 ht).2.1 d h;unfold yR wD at h2;simp only[Bool.and_eq_true,decide_eq_true_eq]at h2;exact⟨⟨(hf d h).2,h1.2.2⟩,h2.1.2,(hf d h).1⟩
theorem zJH {fs:List NodeD} (ht:xA fs=true) (hf:yF fs) (nm:ByteArray) (ss:List ByteArray):zAz (zAA fs nm ss):=by
 unfold zAA;split
 · rcases zEH (fs:=fs) (atN fs nm ss) with h | h
   · exact(zEx ht hf h).1
   · rw[h];exact wS
 · exact wS
theorem zJl {ss:List ByteArray} (h:∀s∈ss,vH s) (k:Nat):zAz (ss.getD k ByteArray.empty):=by
 rw[List.getD_eq_getElem?_getD];by_cases hk:k<ss.length
 · rw[List.getElem?_eq_getElem hk];have:=h _ (List.getElem_mem hk);exact⟨this.2.1,by have:=this.2.2.2;show ss[k].size≤_;omega⟩
 · rw[List.getElem?_eq_none (by omega)];exact wS
theorem zIB {nm:ByteArray} {ss:List ByteArray} {back:Bool} {d:NodeD} {best:ByteArray} (hd:∀s∈d.subs,vH s) (hb:zAz best):zAz (zBk nm ss back d best):=by
 unfold zBk;split
 · generalize (if back=true then (decide (wC ss=⟨#[]⟩)||uA (d.subs.getD (ss.length-1) ByteArray.empty) (wC ss))&&(decide (best=⟨#[]⟩)||uA best (d.subs.getD (ss.length-1) ByteArray.empty)) else (decide (wC ss=⟨#[]⟩)||uA (wC ss) (d.subs.getD (ss.length-1) ByteArray.empty))&&(decide (best=⟨#[]⟩)||uA (d.subs.getD (ss.length-1) ByteArray.empty) best))=c;cases c
   · exact hb
   · exact zJl hd _
 · exact hb
theorem zGb {nm:ByteArray} {ss:List ByteArray} {back:Bool}:∀(l:List NodeD) (best:ByteArray),(∀d∈l,∀s∈d.subs,vH s)→zAz best→zAz (l.foldl (fun best d=>zBk nm ss back d best) best)
 | [],best,_,hb=>hb
 | d::r,best,h,hb=>zGb r _ (fun x hx=>h x (List.mem_cons_of_mem _ hx)) (zIB (h d (by simp)) hb)
theorem zJs {fs:List NodeD} (ht:xA fs=true) (hf:yF fs) (nm:ByteArray) (ss:List ByteArray):zAz (zFe nm ss fs):=by
 unfold zFe;split
 · rcases zEH (fs:=fs) (vL nm ss fs).toNat with h | h
   · obtain⟨_,h2,h3⟩:=zEx ht hf h;have h4:=h2;unfold xC at h4;rw[Bool.and_eq_true,decide_eq_true_eq]at h4;exact⟨.inl ⟨_,h2,fun s hs=>(h3 s hs).1,rfl⟩,zHn h4.1 (fun s hs=>(h3 s hs).2.2.2)⟩
   · rw[h];exact⟨.inl ⟨[],by decide,(fun s hs=>by cases hs),rfl⟩,by decide⟩
 · exact wS
theorem zHR {fs:List NodeD} (ht:xA fs=true) (hf:yF fs) {d:EvD} (h:RawE d) (hv:zAz d.val):yY (zB0 fs d):=by
 unfold zB0;split
 · have:=zJH ht hf d.name d.subs;exact RawE.good ⟨h.nm,h.nb,h.len,h.pure⟩ this.2 this.1
 · split
   · exact RawE.good ⟨h.nm,h.nb,h.len,h.pure⟩ hv.2 hv.1
   · split
     · have:zAz (wM d.name d.subs (decide (d.n<0)) fs):=zGb fs _ (fun x hx=>(hf x hx).1) wS;exact RawE.good ⟨h.nm,h.nb,h.len,h.pure⟩ this.2 this.1
     · have:=zJs ht hf d.name d.subs;exact RawE.good ⟨h.nm,h.nb,h.len,h.pure⟩ this.2 this.1
theorem zBU {d:EvD} (h:RawE d) (hs:∀s∈d.subs,1≤s.size):d.kind≠5→yH d=true:=fun hk=>by
 unfold yH;rw[if_neg hk,h.nb,Bool.true_and];unfold xC;rw[Bool.and_eq_true,decide_eq_true_eq,List.all_eq_true];refine⟨by have:=h.len;omega,fun s hs'=>?_⟩;unfold xG;rw[Bool.and_eq_true,decide_eq_true_eq,decide_eq_true_eq];exact⟨hs s hs',(h.pure s hs').2⟩
theorem zEt {ss:List ByteArray} (h:∀s∈ss,vH s) (hl:ss.length≤4):xC ss=true:=by
 unfold xC;rw[Bool.and_eq_true,decide_eq_true_eq,List.all_eq_true];refine⟨hl,fun s hs=>?_⟩;unfold xG;rw[Bool.and_eq_true,decide_eq_true_eq,decide_eq_true_eq];exact⟨(h s hs).2.2.1,(h s hs).2.2.2⟩
theorem zHt {ss:List ByteArray} (h:∀s∈ss,vH s) (h0:0<ss.length) (hl:ss.length≤3):xN ss=true:=by
 unfold xN;rw[decide_eq_true h0,decide_eq_true (show ss.length≤4 by omega),zEt (fun s hs=>h s (List.mem_of_mem_take hs)) (by rw[List.length_take];omega)];have:xG (wC ss)=true:=by unfold wC;rw[List.getD_eq_getElem?_getD,List.getElem?_eq_getElem (by omega),Option.getD_some];have h1:=h _ (List.getElem_mem (show ss.length-1<ss.length by omega));unfold xG;rw[decide_eq_true h1.2.2.1,decide_eq_true h1.2.2.2];rfl
 rw[this,Bool.or_true];rfl
theorem zDr {ss:List ByteArray} (h:∀s∈ss,vH s) (hl:ss.length≤2):xN (ss++[⟨#[]⟩])=true:=by
 unfold xN;have e1:(ss++[(⟨#[]⟩:ByteArray)]).length=ss.length+1:=by simp
 have e2:wC (ss++[⟨#[]⟩])=⟨#[]⟩:=by unfold wC;rw[e1,Nat.add_sub_cancel,List.getD_eq_getElem?_getD,List.getElem?_append_right (Nat.le_refl _),Nat.sub_self];rfl
 rw[e2,e1,Nat.add_sub_cancel,List.take_left,zEt h (by omega),decide_eq_true (show 0<ss.length+1 by omega),decide_eq_true (show ss.length+1≤4 by omega)];simp
theorem zCc {k n:Int} {nm:ByteArray} {ss:List ByteArray} {v:ByteArray} (hn:nm.size≤16) (hb:xF nm=true) (hl:ss.length≤3) (h:∀s∈ss,vH s):RawE ⟨k,nm,ss,v,n⟩:=⟨hn,hb,hl,fun s hs=>⟨(h s hs).1,(h s hs).2.2.2⟩⟩
theorem zFU {k n:Int} {nm:ByteArray} {ss:List ByteArray} {v:ByteArray} (hn:nm.size≤16) (hb:xF nm=true) (hl:ss.length≤2) (h:∀s∈ss,vH s):RawE ⟨k,nm,ss++[⟨#[]⟩],v,n⟩:=⟨hn,hb,by simp;omega,fun s hs=>by
 rcases List.mem_append.1 hs with h1 | h1
 · exact⟨(h s h1).1,(h s h1).2.2.2⟩
 · rw[List.mem_singleton]at h1;subst h1;exact⟨by decide,by decide⟩⟩
end Go.Proofs.YtgmaamnofhmecaaGreatDoor
