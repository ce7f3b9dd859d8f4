import Derived.Test.YtgmaamnofhmecaaGreatDoorZ31
import Derived.Test.YtgmaamnofhmecaaGreatDoorZ17
set_option linter.unusedSimpArgs false
namespace Go.Proofs.YtgmaamnofhmecaaGreatDoor
open Go.RowKit
set_option linter.unusedVariables false
def zI0 (s:ByteArray):Prop:=yQ s∧okV s∧1≤s.size∧s.size≤24
def zF0 (fs:List NodeD):Prop:=∀d∈fs,(∀s∈d.subs,zI0 s)∧okV d.val
theorem zDt {fs:List NodeD} (h:zF0 fs):xD fs:=fun d hd=>⟨fun s hs=>((h d hd).1 s hs).1,(h d hd).2⟩
theorem zGk:zF0 []:=fun d hd=>by cases hd
theorem zGj {fs:List NodeD} {nm:ByteArray} {ss:List ByteArray} {v:ByteArray} (h:zF0 fs) (hs:∀s∈ss,zI0 s) (hv:okV v):zF0 (zU0 fs nm ss v).2:=by
 unfold zU0;split
 · exact fun d hd=>by cases hd
 · intro d hd;have hd:d∈zY0 fs nm ss v:=hd;unfold zY0 at hd;rcases List.mem_append.1 hd with h1 | h1
   · exact h d (List.mem_of_mem_take h1)
   · rcases List.mem_cons.1 h1 with h2 | h2
     · subst h2;exact⟨hs,hv⟩
     · exact h d (List.mem_of_mem_drop h2)
theorem zIw {fs:List NodeD} {nm:ByteArray} {ss:List ByteArray} (h:zF0 fs):zF0 (yU fs nm ss):=fun d hd=>h d (List.mem_filter.1 hd).1
theorem zJX {fs:List NodeD} {e:EvD} (h:zF0 fs) (hs:∀s∈e.subs,zI0 s) (hv:okV e.val):zF0 (doB fs (xG e)).2:=by
 unfold doB;split
 · exact zGj h hs hv
 · exact zIw h
theorem zHh {fs:List NodeD} {e:EvD} (h:zF0 fs) (hs:∀s∈e.subs,zI0 s) (hv:okV e.val):zF0 (xK fs (xG e)).2:=by
 unfold xK;split
 · exact zJX h hs hv
 · exact zGk
theorem zEQ {fs:List NodeD} {nm:ByteArray} {ss:List ByteArray} {v:ByteArray} (h:zF0 fs) (hs:∀s∈ss,zI0 s) (hv:okV v):zF0 (zQ0 fs nm ss v).2:=by
 unfold zQ0;split
 · exact zGj h hs hv
 · exact zGk
theorem xJ {v:ByteArray} {c:UInt8} {r:List UInt8} (h:v.data.toList=c::r) (h1:c≠1) (h2:c≠2):okV v:=.inr ⟨c,r,h,h1,h2⟩
instance (s:ByteArray):Decidable (yQ s):=inferInstanceAs (Decidable ((0:UInt8) ∉ s.data.toList))
theorem zJb:∀s∈([⟨#[]⟩,⟨#[49]⟩,⟨#[116,119,111]⟩,⟨#[51,46,53]⟩]:List ByteArray),s.size≤16∧okV s:=by
 intro s hs;simp only[List.mem_cons,List.not_mem_nil,or_false]at hs;rcases hs with rfl | rfl | rfl | rfl
 · exact⟨by decide,zCN⟩
 · exact⟨by decide,xJ (c:=49) rfl (by decide) (by decide)⟩
 · exact⟨by decide,xJ (c:=116) rfl (by decide) (by decide)⟩
 · exact⟨by decide,xJ (c:=51) rfl (by decide) (by decide)⟩
theorem zJQ:∀s∈([⟨#[]⟩,⟨#[55]⟩,⟨#[110,101,119]⟩,⟨#[52]⟩]:List ByteArray),s.size≤16∧okV s:=by
 intro s hs;simp only[List.mem_cons,List.not_mem_nil,or_false]at hs;rcases hs with rfl | rfl | rfl | rfl
 · exact⟨by decide,zCN⟩
 · exact⟨by decide,xJ (c:=55) rfl (by decide) (by decide)⟩
 · exact⟨by decide,xJ (c:=110) rfl (by decide) (by decide)⟩
 · exact⟨by decide,xJ (c:=52) rfl (by decide) (by decide)⟩
theorem zKo:okV ⟨#[113]⟩:=xJ (c:=113) rfl (by decide) (by decide)
theorem zIv:∀s∈([⟨#[49]⟩,⟨#[50]⟩,⟨#[49,48]⟩,⟨#[120]⟩,⟨#[45,51]⟩,⟨#[98]⟩]:List ByteArray),zI0 s:=by
 intro s hs;simp only[List.mem_cons,List.not_mem_nil,or_false]at hs;rcases hs with rfl | rfl | rfl | rfl | rfl | rfl
 · exact⟨by decide,xJ (c:=49) rfl (by decide) (by decide),by decide,by decide⟩
 · exact⟨by decide,xJ (c:=50) rfl (by decide) (by decide),by decide,by decide⟩
 · exact⟨by decide,xJ (c:=49) rfl (by decide) (by decide),by decide,by decide⟩
 · exact⟨by decide,xJ (c:=120) rfl (by decide) (by decide),by decide,by decide⟩
 · exact⟨by decide,xJ (c:=45) rfl (by decide) (by decide),by decide,by decide⟩
 · exact⟨by decide,xJ (c:=98) rfl (by decide) (by decide),by decide,by decide⟩
theorem zJo {ss:List ByteArray} {t:ByteArray} (h:∀s∈ss,zI0 s) (ht:zI0 t):∀s∈ss++[t],zI0 s:=fun s hs=>by
 rcases List.mem_append.1 hs with h1 | h1
 · exact h s h1
 · rw[List.mem_singleton]at h1;subst h1;exact ht
structure RawE (d:EvD):Prop where
 nm:d.name.size≤16
 nb:xF d.name=true
 len:d.subs.length≤3
 pure:∀s∈d.subs,yQ s∧s.size≤24
theorem RawE.small {d:EvD} (h:RawE d) (hv:d.val.size≤1048576):d.small:=⟨by have:=h.nm;omega,⟨by have:=h.len;omega,fun s hs=>by have:=(h.pure s hs).2;omega⟩,hv⟩
def xY (d:EvD):Prop:=okE d∧zCa d
theorem RawE.good {d:EvD} (h:RawE d) (hv:d.val.size≤1048576) (ho:okV d.val):xY d:=⟨⟨h.small hv,ho⟩,fun s hs=>(h.pure s hs).1,ho⟩
theorem zHY (s:ByteArray):(vD s).length≤s.size+9:=by
 unfold vD;split
 · rw[List.length_cons,zM0];omega
 · rw[List.length_cons,List.length_append];have:s.data.toList.length=s.size:=rfl;simp only[List.length_cons,List.length_nil];omega
theorem zGi:∀(ss:List ByteArray) (m:Nat),(∀s∈ss,s.size≤m)→(ss.flatMap vD).length≤ss.length*(m+9)
 | [],m,_=>by simp
 | s::r,m,h=>by have h1:=zGi r m (fun t ht=>h t (List.mem_cons_of_mem _ ht));have h2:=zHY s;have h3:=h s (by simp);rw[List.flatMap_cons,List.length_append,List.length_cons,Nat.add_mul,Nat.one_mul];omega
theorem zGU {ss:List ByteArray} (h:ss.length≤4) (hs:∀s∈ss,s.size≤24):(xN ss).size≤1048576:=by
 have h1:=zGi ss 24 hs;have h2:(xN ss).size=(ss.flatMap vD).length:=by have:(xN ss).size=(xN ss).data.toList.length:=rfl;rw[this,zAS]
 rw[h2];have h3:ss.length*(24+9)≤4*33:=Nat.mul_le_mul_right _ h;omega
def zAA (v:ByteArray):Prop:=okV v∧v.size≤1048576
theorem zT0:zAA ⟨#[]⟩:=⟨zCN,by decide⟩
theorem zEr {fs:List NodeD} (k:Nat):fs.getD k default∈fs∨fs.getD k default=default:=by
 rw[List.getD_eq_getElem?_getD];by_cases h:k<fs.length
 · rw[List.getElem?_eq_getElem h];exact .inl (List.getElem_mem h)
 · rw[List.getElem?_eq_none (by omega)];exact .inr rfl
theorem zEg {fs:List NodeD} (ht:xA fs=true) (hf:zF0 fs) {d:NodeD} (h:d∈fs):zAA d.val∧yC d.subs=true∧∀s∈d.subs,zI0 s:=by
 have h1:=(wB ht).2 d h;have h2:=(tree_iff.1 ht).2.1 d h;unfold uR wD at h2;simp only[Bool.and_eq_true,decide_eq_true_eq]at h2;exact⟨⟨(hf d h).2,h1.2.2⟩,h2.1.2,(hf d h).1⟩
theorem zJn {fs:List NodeD} (ht:xA fs=true) (hf:zF0 fs) (nm:ByteArray) (ss:List ByteArray):zAA (zAB fs nm ss):=by
 unfold zAB;split
 · rcases zEr (fs:=fs) (atN fs nm ss) with h | h
   · exact(zEg ht hf h).1
   · rw[h];exact zT0
 · exact zT0
theorem zIR {ss:List ByteArray} (h:∀s∈ss,zI0 s) (k:Nat):zAA (ss.getD k ByteArray.empty):=by
 rw[List.getD_eq_getElem?_getD];by_cases hk:k<ss.length
 · rw[List.getElem?_eq_getElem hk];have:=h _ (List.getElem_mem hk);exact⟨this.2.1,by have:=this.2.2.2;show ss[k].size≤_;omega⟩
 · rw[List.getElem?_eq_none (by omega)];exact zT0
theorem zIg {nm:ByteArray} {ss:List ByteArray} {back:Bool} {d:NodeD} {best:ByteArray} (hd:∀s∈d.subs,zI0 s) (hb:zAA best):zAA (zBj nm ss back d best):=by
 unfold zBj;split
 · generalize (if back=true then (decide (xC ss=⟨#[]⟩)||uA (d.subs.getD (ss.length-1) ByteArray.empty) (xC ss))&&(decide (best=⟨#[]⟩)||uA best (d.subs.getD (ss.length-1) ByteArray.empty)) else (decide (xC ss=⟨#[]⟩)||uA (xC ss) (d.subs.getD (ss.length-1) ByteArray.empty))&&(decide (best=⟨#[]⟩)||uA (d.subs.getD (ss.length-1) ByteArray.empty) best))=c;cases c
   · exact hb
   · exact zIR hd _
 · exact hb
theorem zFI {nm:ByteArray} {ss:List ByteArray} {back:Bool}:∀(l:List NodeD) (best:ByteArray),(∀d∈l,∀s∈d.subs,zI0 s)→zAA best→zAA (l.foldl (fun best d=>zBj nm ss back d best) best)
 | [],best,_,hb=>hb
 | d::r,best,h,hb=>zFI r _ (fun x hx=>h x (List.mem_cons_of_mem _ hx)) (zIg (h d (by simp)) hb)
theorem zIY {fs:List NodeD} (ht:xA fs=true) (hf:zF0 fs) (nm:ByteArray) (ss:List ByteArray):zAA (zEO nm ss fs):=by
 unfold zEO;split
 · rcases zEr (fs:=fs) (yM nm ss fs).toNat with h | h
   · obtain⟨_,h2,h3⟩:=zEg ht hf h;have h4:=h2;unfold yC at h4;rw[Bool.and_eq_true,decide_eq_true_eq]at h4;exact⟨.inl ⟨_,h2,fun s hs=>(h3 s hs).1,rfl⟩,zGU h4.1 (fun s hs=>(h3 s hs).2.2.2)⟩
   · rw[h];exact⟨.inl ⟨[],by decide,(fun s hs=>by cases hs),rfl⟩,by decide⟩
 · exact zT0
theorem zHv {fs:List NodeD} (ht:xA fs=true) (hf:zF0 fs) {d:EvD} (h:RawE d) (hv:zAA d.val):xY (xB fs d):=by
 unfold xB;split
 · have:=zJn ht hf d.name d.subs;exact RawE.good ⟨h.nm,h.nb,h.len,h.pure⟩ this.2 this.1
 · split
   · exact RawE.good ⟨h.nm,h.nb,h.len,h.pure⟩ hv.2 hv.1
   · split
     · have:zAA (zN0 d.name d.subs (decide (d.n<0)) fs):=zFI fs _ (fun x hx=>(hf x hx).1) zT0;exact RawE.good ⟨h.nm,h.nb,h.len,h.pure⟩ this.2 this.1
     · have:=zIY ht hf d.name d.subs;exact RawE.good ⟨h.nm,h.nb,h.len,h.pure⟩ this.2 this.1
theorem zBQ {d:EvD} (h:RawE d) (hs:∀s∈d.subs,1≤s.size):d.kind≠5→wH d=true:=fun hk=>by
 unfold wH;rw[if_neg hk,h.nb,Bool.true_and];unfold yC;rw[Bool.and_eq_true,decide_eq_true_eq,List.all_eq_true];refine⟨by have:=h.len;omega,fun s hs'=>?_⟩;unfold vG;rw[Bool.and_eq_true,decide_eq_true_eq,decide_eq_true_eq];exact⟨hs s hs',(h.pure s hs').2⟩
theorem zEd {ss:List ByteArray} (h:∀s∈ss,zI0 s) (hl:ss.length≤4):yC ss=true:=by
 unfold yC;rw[Bool.and_eq_true,decide_eq_true_eq,List.all_eq_true];refine⟨hl,fun s hs=>?_⟩;unfold vG;rw[Bool.and_eq_true,decide_eq_true_eq,decide_eq_true_eq];exact⟨(h s hs).2.2.1,(h s hs).2.2.2⟩
theorem zGZ {ss:List ByteArray} (h:∀s∈ss,zI0 s) (h0:0<ss.length) (hl:ss.length≤3):vN ss=true:=by
 unfold vN;rw[decide_eq_true h0,decide_eq_true (show ss.length≤4 by omega),zEd (fun s hs=>h s (List.mem_of_mem_take hs)) (by rw[List.length_take];omega)];have:vG (xC ss)=true:=by unfold xC;rw[List.getD_eq_getElem?_getD,List.getElem?_eq_getElem (by omega),Option.getD_some];have h1:=h _ (List.getElem_mem (show ss.length-1<ss.length by omega));unfold vG;rw[decide_eq_true h1.2.2.1,decide_eq_true h1.2.2.2];rfl
 rw[this,Bool.or_true];rfl
theorem zDh {ss:List ByteArray} (h:∀s∈ss,zI0 s) (hl:ss.length≤2):vN (ss++[⟨#[]⟩])=true:=by
 unfold vN;have e1:(ss++[(⟨#[]⟩:ByteArray)]).length=ss.length+1:=by simp
 have e2:xC (ss++[⟨#[]⟩])=⟨#[]⟩:=by unfold xC;rw[e1,Nat.add_sub_cancel,List.getD_eq_getElem?_getD,List.getElem?_append_right (Nat.le_refl _),Nat.sub_self];rfl
 rw[e2,e1,Nat.add_sub_cancel,List.take_left,zEd h (by omega),decide_eq_true (show 0<ss.length+1 by omega),decide_eq_true (show ss.length+1≤4 by omega)];simp
theorem zBX {k n:Int} {nm:ByteArray} {ss:List ByteArray} {v:ByteArray} (hn:nm.size≤16) (hb:xF nm=true) (hl:ss.length≤3) (h:∀s∈ss,zI0 s):RawE ⟨k,nm,ss,v,n⟩:=⟨hn,hb,hl,fun s hs=>⟨(h s hs).1,(h s hs).2.2.2⟩⟩
theorem zFC {k n:Int} {nm:ByteArray} {ss:List ByteArray} {v:ByteArray} (hn:nm.size≤16) (hb:xF nm=true) (hl:ss.length≤2) (h:∀s∈ss,zI0 s):RawE ⟨k,nm,ss++[⟨#[]⟩],v,n⟩:=⟨hn,hb,by simp;omega,fun s hs=>by
 rcases List.mem_append.1 hs with h1 | h1
 · exact⟨(h s h1).1,(h s h1).2.2.2⟩
 · rw[List.mem_singleton]at h1;subst h1;exact⟨by decide,by decide⟩⟩
end Go.Proofs.YtgmaamnofhmecaaGreatDoor
