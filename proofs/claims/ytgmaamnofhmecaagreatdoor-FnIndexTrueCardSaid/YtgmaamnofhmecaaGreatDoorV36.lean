import Derived.Test.YtgmaamnofhmecaaGreatDoorV35
import Derived.Test.YtgmaamnofhmecaaGreatDoorV27
namespace Go.Proofs.YtgmaamnofhmecaaGreatDoor
open Go.RowKit
set_option linter.unusedVariables false
theorem zCU:∀s:List ByteArray,zG0 s s=true
 | []=>rfl
 | x::r=>by unfold zG0;rw[zCU r];simp
theorem mem_kill {fs:List NodeD} {nm:ByteArray} {ss:List ByteArray} {d:NodeD}:d∈yM fs nm ss↔d∈fs∧inN nm ss d=false:=by
 unfold yM;rw[List.mem_filter];simp
theorem zIV {fs:List NodeD} {nm:ByteArray} {ss:List ByteArray} {v:ByteArray} (h0:(yR fs nm ss v).1=0):(yR fs nm ss v).2=zBQ fs nm ss v:=by
 unfold yR at h0 ⊢;split at h0
 · cases h0
 · next hn=>rw[if_neg hn]
theorem zIY {fs:List NodeD} {nm:ByteArray} {ss:List ByteArray} {v:ByteArray} (h:xA fs=true) (h0:(yR fs nm ss v).1=0) {d:NodeD}:d∈(yR fs nm ss v).2↔d=⟨nm,ss,v⟩∨(d∈fs∧¬(d.name=nm∧d.subs=ss)):=by
 obtain⟨p1,p2⟩:=zCX h nm ss v;rw[zIV h0];unfold zBQ;rw[List.mem_append,List.mem_cons]
 have key:∀x:NodeD,x∈fs→¬(x.name=nm∧x.subs=ss)→x∈fs.take (atN fs nm ss)∨x∈fs.drop (if yU fs nm ss=true then atN fs nm ss+1 else atN fs nm ss):=by
  intro x hx hn;rw[←List.take_append_drop (atN fs nm ss) fs,List.mem_append]at hx;rcases hx with hx | hx
  · exact .inl hx
  · by_cases hh:yU fs nm ss=true
    · rw[if_pos hh];unfold yU zDC at hh;simp only[Bool.and_eq_true,decide_eq_true_eq]at hh;obtain⟨hl,e1,e2⟩:=hh;rw[List.drop_eq_getElem_cons hl,List.mem_cons]at hx;rw[List.getD_eq_getElem?_getD,List.getElem?_eq_getElem hl,Option.getD_some]at e1 e2;rcases hx with hx | hx
      · exact absurd ⟨by rw[hx];exact e1,by rw[hx];exact e2⟩ hn
      · exact .inr hx
    · rw[if_neg hh];exact .inr hx
 constructor
 · rintro(hx | rfl | hx)
   · have hs:=p1 d hx;exact .inr ⟨List.mem_of_mem_take hx,fun ⟨e1,e2⟩=>by rw[yP (a:=d) (b:=⟨nm,ss,v⟩) e1 e2]at hs;cases hs⟩
   · exact .inl rfl
   · have hs:=p2 d hx;exact .inr ⟨List.mem_of_mem_drop hx,fun ⟨e1,e2⟩=>by rw[yP (a:=⟨nm,ss,v⟩) (b:=d) e1.symm e2.symm]at hs;cases hs⟩
 · rintro(rfl | ⟨hx,hn⟩)
   · exact .inr (.inl rfl)
   · rcases key d hx hn with h1 | h1
     · exact .inl h1
     · exact .inr (.inr h1)
theorem zJs {fs:List NodeD} (h:xA fs=true) {a b:NodeD} (ha:a∈fs) (hb:b∈fs) (e1:a.name=b.name) (e2:a.subs=b.subs):a=b:=by
 have hp:=zDN h;obtain⟨i,hi,rfl⟩:=List.getElem_of_mem ha;obtain⟨j,hj,rfl⟩:=List.getElem_of_mem hb;rcases Nat.lt_trichotomy i j with hlt | rfl | hlt
 · have:=List.pairwise_iff_getElem.1 hp i j hi hj hlt;rw[yP e1 e2]at this;cases this
 · rfl
 · have:=List.pairwise_iff_getElem.1 hp j i hj hi hlt;rw[yP e1.symm e2.symm]at this;cases this
theorem zIo {fs:List NodeD} (h:xA fs=true) {d:NodeD} (hd:d∈fs):yU fs d.name d.subs=true:=by
 cases hh:yU fs d.name d.subs with
 | true=>rfl
 | false =>
   exfalso;obtain⟨p1,p2⟩:=zCX h d.name d.subs d.val;rw[hh,if_neg (by simp)]at p2;have hx:=hd;rw[←List.take_append_drop (atN fs d.name d.subs) fs,List.mem_append]at hx;rcases hx with hx | hx
   · have hs:=p1 d hx;rw[yP rfl rfl]at hs;cases hs
   · have hs:=p2 d hx;rw[yP rfl rfl]at hs;cases hs
theorem zEG {nm:ByteArray} {ss:List ByteArray}:∀(l:List NodeD) (o:Int),(∀d∈l,¬(d.name=nm∧d.subs=ss))→(l.foldl (fun out d=>yQ nm ss d out) o) % 10=o % 10
 | [],_,_=>rfl
 | d::t,o,hn=>by
   rw[List.foldl_cons,zEG t _ (fun d' hd'=>hn d' (List.mem_cons_of_mem _ hd'))];unfold yQ;split
   · next hin =>
     unfold inN at hin;rw[Bool.and_eq_true,decide_eq_true_eq]at hin;split
     · next hl=>exact absurd ⟨hin.1,zCb hin.2 hl⟩ (hn d (by simp))
     · split <;> omega
   · rfl
theorem zCd {fs:List NodeD} (h:xA fs=true) {d:NodeD} (hd:d∈fs):wC d.name d.subs=true:=by
 have h2:=(tree_iff.1 h).2.1 d hd;unfold yY at h2;rw[Bool.and_eq_true]at h2;exact h2.1
theorem zLl {fs:List NodeD} (h:xA fs=true) {d:NodeD} (hd:d∈fs):zBw fs d.name d.subs % 10=1:=by
 unfold zBw;rw[h,zCd h hd,if_pos (by rfl)];unfold uW;obtain⟨l1,l2,e⟩:=List.append_of_mem hd;have hp:=zDN h;rw[e,List.pairwise_append]at hp;obtain⟨_,hp2,hp3⟩:=hp;rw[List.pairwise_cons]at hp2;rw[e,List.foldl_append,List.foldl_cons,zEG l2 _ (fun x hx ⟨e1,e2⟩=>by have:=hp2.1 x hx;rw[yP e1.symm e2.symm]at this;cases this)];have h1:=zEG (nm:=d.name) (ss:=d.subs) l1 0 (fun x hx ⟨e1,e2⟩=>by have:=hp3 x hx d (by simp);rw[yP e1 e2]at this;cases this);have h2:inN d.name d.subs d=true:=by unfold inN;rw[zCU];simp
 rw[show yQ d.name d.subs d (l1.foldl (fun out x=>yQ d.name d.subs x out) 0)=l1.foldl (fun out x=>yQ d.name d.subs x out) 0+1 by unfold yQ;rw[if_pos h2,if_pos rfl]];omega
theorem zCa (f:NodeD→Option (List ByteArray)):∀(l:List NodeD) (rs:List (List ByteArray)),zE0 f l=some rs→(∀r,r∈rs↔∃d∈l,f d=some r)∧∀d∈l,∃r,f d=some r
 | [],rs,h=>by cases h;exact⟨fun r=>by simp,fun d hd=>by simp at hd⟩
 | d::t,rs,h=>by
   unfold zE0 at h
   cases hf:f d with
   | none=>rw[hf]at h;cases h
   | some x =>
     rw[hf]at h;simp only[]at h
     cases ht:zE0 f t with
     | none=>rw[ht]at h;cases h
     | some ys =>
       rw[ht]at h;cases h;obtain⟨i1,i2⟩:=zCa f t ys ht;refine⟨fun r=>?_,fun d' hd'=>?_⟩
       · rw[List.mem_cons];constructor
         · rintro(rfl | hr)
           · exact⟨d,by simp,hf⟩
           · obtain⟨d',h1,h2⟩:=(i1 r).1 hr;exact⟨d',List.mem_cons_of_mem _ h1,h2⟩
         · rintro⟨d',h1,h2⟩;rcases List.mem_cons.1 h1 with rfl | h1
           · rw[hf]at h2;cases h2;exact .inl rfl
           · exact .inr ((i1 r).2 ⟨d',h1,h2⟩)
       · rcases List.mem_cons.1 hd' with rfl | h1
         · exact⟨x,hf⟩
         · exact i2 d' h1
theorem zDY (f:NodeD→Option (List ByteArray)):∀(l:List NodeD),(∀d∈l,∃r,f d=some r)→∃rs,zE0 f l=some rs
 | [],_=>⟨[],rfl⟩
 | d::t,h=>by obtain⟨r,hr⟩:=h d (by simp);obtain⟨rs,hrs⟩:=zDY f t (fun d' hd'=>h d' (List.mem_cons_of_mem _ hd'));exact⟨r::rs,by unfold zE0;rw[hr,hrs];rfl⟩
theorem rowsT_ok {cols:List ByteArray} {ns:List NodeD}:(uB cols ns).1=0↔ns.length≤24∧∀d∈ns,∃r,zAQ cols d=some r:=by
 unfold uB;by_cases hl:24<ns.length
 · rw[if_pos hl];exact⟨fun h=>absurd h (by decide),fun h=>by omega⟩
 · rw[if_neg hl]
   cases hu:zE0 (zAQ cols) ns with
   | none=>refine⟨fun h=>absurd h (by decide),fun h=>?_⟩;obtain⟨rs,hrs⟩:=zDY _ _ h.2;rw[hu]at hrs;cases hrs
   | some rs=>exact⟨fun _=>⟨by omega,(zCa _ _ _ hu).2⟩,fun _=>rfl⟩
theorem xP {cols:List ByteArray} {ns:List NodeD} (h:(uB cols ns).1=0) (r:List ByteArray):r∈(uB cols ns).2↔∃d∈ns,zAQ cols d=some r:=by
 unfold uB at h ⊢;by_cases hl:24<ns.length
 · rw[if_pos hl]at h;exact absurd h (by decide)
 · rw[if_neg hl]at h ⊢
   cases hu:zE0 (zAQ cols) ns with
   | none=>rw[hu]at h;exact absurd h (by decide)
   | some rs=>exact(zCa _ _ _ hu).1 r
theorem zAv {cols:List ByteArray} {d:NodeD} {r:List ByteArray} (h:zAQ cols d=some r):r.getD 0 ByteArray.empty=d.subs.getD 1 ByteArray.empty∧vC cols r=true:=by
 unfold zAQ yF at h;split at h
 · cases h
 · next hn =>
   cases h;refine⟨rfl,?_⟩
   cases hr:vC cols (vD cols (d.subs.getD 1 ByteArray.empty) d.val) with
   | true=>rfl
   | false=>rw[hr]at hn;simp at hn
def ent (g k c v:ByteArray):NodeD:=⟨g,[iS,c,v,k],⟨#[]⟩⟩
def zLX (g:ByteArray) (I:List ByteArray) (R:ByteArray→ByteArray→ByteArray→Prop) (d:NodeD):Prop:=∃k c v,R k c v∧c∈I∧v≠⟨#[]⟩∧d=ent g k c v
def zDK (fs:List NodeD) (g:ByteArray) (I:List ByteArray) (R:ByteArray→ByteArray→ByteArray→Prop):Prop:=∀d,xE g d=true→(d∈fs↔zLX g I R d)
def zHB (cols:List ByteArray) (rs:List (List ByteArray)) (k c v:ByteArray):Prop:=∃r∈rs,r.getD 0 ByteArray.empty=k∧v=cellAt cols r c
theorem zJg (g k c v:ByteArray):xE g (ent g k c v)=true:=by unfold xE ent;simp
theorem zJf {g k c v k' c' v':ByteArray} (h:ent g k c v=ent g k' c' v'):k=k'∧c=c'∧v=v':=by
 unfold ent at h;simp only[NodeD.mk.injEq,List.cons.injEq,and_true,true_and]at h;exact⟨h.2.2,h.1,h.2.1⟩
theorem zLF {s:ByteArray} (h:xS s=true):s≠⟨#[]⟩:=fun e=>by
 rw[e]at h;exact absurd h (by decide)
theorem zKC {fs:List NodeD} (h:xA fs=true) {d:NodeD} (hd:d∈fs) {s:ByteArray} (hs:s∈d.subs):xS s=true:=by
 have h2:=zCd h hd;unfold wC yK at h2;simp only[Bool.and_eq_true,List.all_eq_true]at h2;exact h2.2.2 s hs
theorem place_iff {l:List ByteArray} {x:ByteArray}:0≤wA l x↔x∈l:=⟨fun h=>by
 obtain⟨j,h1,_,h3⟩:=zCY h;rw[←h3]
 exact vK l j h1,zCu⟩
theorem zDP {fs:List NodeD} {b:TableD} (ht:xA fs=true) (hb:zF0 b=true) (h0:(uB b.cols (yA b.glob fs)).1=0) :
 xH fs b=true↔zDK fs b.glob b.idx (zHB b.cols (uB b.cols (yA b.glob fs)).2):=by
 unfold xH;rw[ht,hb];simp only[Bool.and_self,Bool.true_and,h0,decide_true,Bool.and_eq_true,List.all_eq_true];generalize (uB b.cols (yA b.glob fs)).2=rs at *;constructor
 · rintro⟨hA,hB⟩
   have hA':∀d∈fs,xE b.glob d=true→zLX b.glob b.idx (zHB b.cols rs) d:=by
    intro d hd hi;have h1:=hA d hd;rw[hi]at h1;simp only[Bool.not_true,Bool.false_or]at h1;unfold vR at h1;simp only[Bool.and_eq_true,decide_eq_true_eq,List.any_eq_true]at h1;obtain⟨hl,hp,hv,r,hr,e1,e2⟩:=h1;unfold xE at hi;simp only[Bool.and_eq_true,decide_eq_true_eq]at hi;obtain⟨n1,_,n2⟩:=hi;have hs:=zJH hl;refine⟨_,_,_,⟨r,hr,rfl,rfl⟩,place_iff.1 hp,?_,?_⟩
    · rw[e2];refine zLF (zKC ht hd ?_);rw[hs];simp
    · rw[e1,e2];unfold ent;rw[←n2,←hs,←n1,←hv]
   intro d hi;refine⟨fun hd=>hA' d hd hi,?_⟩;rintro⟨k,c,v,⟨r,hr,rfl,rfl⟩,hc,hv,rfl⟩;have h1:=hB r hr;unfold zS0 at h1;simp only[List.all_eq_true]at h1;have h2:=h1 c hc;unfold zI0 at h2;rw[if_neg hv]at h2;have h3:=h2 _ (List.mem_singleton.2 rfl);unfold zAr zBw at h3;rw[decide_eq_true_eq]at h3;split at h3
   · obtain⟨d',hd',e1,e2⟩:=zIr h3;have hi':xE b.glob d'=true:=by unfold xE;rw[e1,e2];simp
     obtain⟨k',c',v',_,_,_,e⟩:=hA' d' hd' hi';have:d'=ent b.glob (r.getD 0 ByteArray.empty) c (cellAt b.cols r c):=by rw[e]at e1 e2 ⊢;unfold ent at e2 ⊢;simp only[]at e2;rw[e2]
     rw[←this];exact hd'
   · exact absurd h3 (by decide)
 · intro H;refine⟨fun d hd=>?_,fun r hr=>?_⟩
   · cases hi:xE b.glob d with
     | false=>rfl
     | true=>obtain⟨k,c,v,⟨r,hr,rfl,rfl⟩,hc,hv,rfl⟩:=(H d hi).1 hd;simp only[Bool.not_true,Bool.false_or];unfold vR;simp only[Bool.and_eq_true,decide_eq_true_eq,List.any_eq_true];exact⟨rfl,zCu hc,rfl,r,hr,rfl,rfl⟩
   · unfold zS0;rw[List.all_eq_true];intro c hc;rw[List.all_eq_true];intro x hx;unfold zI0 at hx;split at hx
     · simp at hx
     · next hv=>rw[List.mem_singleton]at hx;subst hx;have hd:=(H (ent b.glob (r.getD 0 ByteArray.empty) c (cellAt b.cols r c)) (zJg _ _ _ _)).2 ⟨_,_,_,⟨r,hr,rfl,rfl⟩,hc,hv,rfl⟩;have:=zLl ht hd;unfold zAr;exact decide_eq_true this
end Go.Proofs.YtgmaamnofhmecaaGreatDoor
namespace Go.Proofs.YtgmaamnofhmecaaGreatDoor
open Go.RowKit
set_option linter.unusedVariables false
theorem vP:∀(a c:List ChgD) (fs:List NodeD),zB0 fs (a++c)=if (zB0 fs a).1=0 then zB0 (zB0 fs a).2 c else ((zB0 fs a).1,[])
 | [],c,fs=>by rw[List.nil_append,show zB0 fs []=(0,fs) from rfl,if_pos rfl]
 | x::a,c,fs=>by
   rw[List.cons_append,zB0,zB0];by_cases h:(vI fs x).1=0
   · rw[if_pos h,if_pos h];exact vP a c _
   · rw[if_neg h,if_neg h,if_neg h]
theorem zED {fs:List NodeD} {g:ByteArray} {ss:List ByteArray} (ht:xA fs=true) (hc:vF ⟨2,g,ss,⟨#[]⟩⟩=true):zB0 fs [⟨2,g,ss,⟨#[]⟩⟩]=(0,yM fs g ss):=by
 rw[zB0];have e:vI fs ⟨2,g,ss,⟨#[]⟩⟩=(0,yM fs g ss):=by unfold vI doB;rw[ht,hc,if_pos (by rfl),if_neg (show ¬(2:Int)=1 by decide)]
 rw[e];rfl
theorem zDi {fs:List NodeD} {g v:ByteArray} {ss:List ByteArray} (ht:xA fs=true) (hc:vF ⟨1,g,ss,v⟩=true) (h0:(zB0 fs [⟨1,g,ss,v⟩]).1=0):(yR fs g ss v).1=0∧(zB0 fs [⟨1,g,ss,v⟩]).2=(yR fs g ss v).2:=by
 rw[zB0]at h0 ⊢;have e:vI fs ⟨1,g,ss,v⟩=yR fs g ss v:=by unfold vI doB;rw[ht,hc,if_pos (by rfl),if_pos rfl]
 rw[e]at h0 ⊢;by_cases h:(yR fs g ss v).1=0
 · rw[if_pos h];exact⟨h,rfl⟩
 · rw[if_neg h]at h0;exact absurd h0 h
def zKf (fs:List NodeD) (g:ByteArray):Prop:=∀d∈fs,xE g d=true→∃k c v,d=ent g k c v
theorem zLi {fs:List NodeD} {g:ByteArray} {I:List ByteArray} {R:ByteArray→ByteArray→ByteArray→Prop} (H:zDK fs g I R):zKf fs g:=fun d hd hi=>by
 obtain⟨k,c,v,_,_,_,e⟩:=(H d hi).1 hd;exact⟨k,c,v,e⟩
theorem zFT {fs:List NodeD} {g k c v:ByteArray} (ht:xA fs=true) (hF:zKf fs g) (h0:(yR fs g [iS,c,v,k] ⟨#[]⟩).1=0) (d:NodeD) (hi:xE g d=true):d∈(yR fs g [iS,c,v,k] ⟨#[]⟩).2↔d=ent g k c v∨d∈fs:=by
 rw[zIY ht h0];constructor
 · rintro(h | ⟨h,_⟩)
   · exact .inl h
   · exact .inr h
 · rintro(h | h)
   · exact .inl h
   · by_cases hp:d.name=g∧d.subs=[iS,c,v,k]
     · left;obtain⟨k',c',v',e⟩:=hF d h hi;rw[e]at hp ⊢;unfold ent at hp ⊢;rw[show[iS,c',v',k']=[iS,c,v,k] from hp.2]
     · exact .inr ⟨h,hp⟩
theorem zKG {fs:List NodeD} {g k c v:ByteArray} (hF:zKf fs g) (d:NodeD) (hi:xE g d=true):d∈yM fs g [iS,c,v,k]↔d∈fs∧d≠ent g k c v:=by
 rw[mem_kill];constructor
 · rintro⟨h,hn⟩;refine⟨h,fun e=>?_⟩;rw[e]at hn;unfold inN ent at hn;rw[zCU]at hn;simp at hn
 · rintro⟨h,hn⟩;refine⟨h,?_⟩
   cases hin:inN g [iS,c,v,k] d with
   | false=>rfl
   | true=>exfalso;obtain⟨k',c',v',e⟩:=hF d h hi;unfold inN at hin;rw[Bool.and_eq_true]at hin;have h2:=zCb hin.2 (by rw[e];rfl);rw[e]at h2 hn;unfold ent at h2 hn;simp only[]at h2;rw[h2]at hn;exact hn rfl
theorem zAd {fs:List NodeD} {g:ByteArray} {I:List ByteArray} {R R':ByteArray→ByteArray→ByteArray→Prop} (H:zDK fs g I R) (h:∀k c v,c∈I→(R k c v↔R' k c v)):zDK fs g I R':=fun d hi=>by
 rw[H d hi];constructor
 · rintro⟨k,c,v,h1,h2,h3,h4⟩;exact⟨k,c,v,(h k c v h2).1 h1,h2,h3,h4⟩
 · rintro⟨k,c,v,h1,h2,h3,h4⟩;exact⟨k,c,v,(h k c v h2).2 h1,h2,h3,h4⟩
def upR (R:ByteArray→ByteArray→ByteArray→Prop) (k0:ByteArray) (P:ByteArray→Prop) (fn:ByteArray→ByteArray) (k c v:ByteArray):Prop:=(k=k0∧P c∧v=fn c)∨(¬(k=k0∧P c)∧R k c v)
theorem xX {R:ByteArray→ByteArray→ByteArray→Prop} {k0:ByteArray} {P:ByteArray→Prop} {fn:ByteArray→ByteArray} {c v:ByteArray} (h:P c):upR R k0 P fn k0 c v↔v=fn c :=
 ⟨fun x=>x.elim (fun y=>y.2.2) (fun y=>absurd ⟨rfl,h⟩ y.1),fun x=>.inl ⟨rfl,h,x⟩⟩
theorem wV {R:ByteArray→ByteArray→ByteArray→Prop} {k0:ByteArray} {P:ByteArray→Prop} {fn:ByteArray→ByteArray} {k c v:ByteArray} (h:¬(k=k0∧P c)):upR R k0 P fn k c v↔R k c v :=
 ⟨fun x=>x.elim (fun y=>absurd ⟨y.1,y.2.1⟩ h) (fun y=>y.2),fun x=>.inr ⟨h,x⟩⟩
def zAb (g k c v:ByteArray):List ChgD:=if v=⟨#[]⟩ then [] else [⟨2,g,[iS,c,v,k],⟨#[]⟩⟩]
def zBP (g k c v:ByteArray):List ChgD:=if v=⟨#[]⟩ then [] else [⟨1,g,[iS,c,v,k],⟨#[]⟩⟩]
theorem zKT {fs:List NodeD} {g k0 c0 o n:ByteArray} {I:List ByteArray} {R:ByteArray→ByteArray→ByteArray→Prop} (ht:xA fs=true) (H:zDK fs g I R) (hc:c0∈I) (hR:∀v,R k0 c0 v→v=o∨v=n) (hne:o≠n)
 (hA:∀x∈zAb g k0 c0 o++zBP g k0 c0 n,vF x=true) (h0:(zB0 fs (zAb g k0 c0 o++zBP g k0 c0 n)).1=0) :
 zDK (zB0 fs (zAb g k0 c0 o++zBP g k0 c0 n)).2 g I (upR R k0 (fun c=>c=c0) fun _=>n):=by
 have hF:=zLi H
 have h1:∃fs1,zB0 fs (zAb g k0 c0 o)=(0,fs1)∧xA fs1=true∧zKf fs1 g∧∀d,xE g d=true→(d∈fs1↔d∈fs∧d≠ent g k0 c0 o):=by
  by_cases hv:o=⟨#[]⟩
  · refine⟨fs,by unfold zAb;rw[if_pos hv];rfl,ht,hF,fun d hi=>⟨fun h=>⟨h,fun e=>?_⟩,fun h=>h.1⟩⟩;obtain⟨k,c,v,_,_,hv2,e2⟩:=(H d hi).1 h;rw[e]at e2;exact hv2 ((zJf e2).2.2.symm.trans hv)
  · have e:zAb g k0 c0 o=[⟨2,g,[iS,c0,o,k0],⟨#[]⟩⟩]:=by unfold zAb;rw[if_neg hv]
    have hch:vF ⟨2,g,[iS,c0,o,k0],⟨#[]⟩⟩=true:=hA _ (by rw[e];simp);refine⟨yM fs g [iS,c0,o,k0],by rw[e];exact zED ht hch,zBJ _ _ ht,fun d hd hi=>hF d ((mem_kill.1 hd).1) hi,fun d hi=>zKG hF d hi⟩
 obtain⟨fs1,e1,t1,f1,m1⟩:=h1;rw[vP,e1,if_pos rfl]at h0 ⊢;simp only[]at h0 ⊢
 have h2:∀d,xE g d=true→(d∈(zB0 fs1 (zBP g k0 c0 n)).2↔(n≠⟨#[]⟩∧d=ent g k0 c0 n)∨d∈fs1):=by
  intro d hi;by_cases hv:n=⟨#[]⟩
  · have e:zBP g k0 c0 n=[]:=by unfold zBP;rw[if_pos hv]
    rw[e];exact⟨fun h=>.inr h,fun h=>h.elim (fun h=>absurd hv h.1) id⟩
  · have e:zBP g k0 c0 n=[⟨1,g,[iS,c0,n,k0],⟨#[]⟩⟩]:=by unfold zBP;rw[if_neg hv]
    have hch:vF ⟨1,g,[iS,c0,n,k0],⟨#[]⟩⟩=true:=hA _ (by rw[e];simp);rw[e]at h0 ⊢;obtain⟨p1,p2⟩:=zDi t1 hch h0;rw[p2,zFT t1 f1 p1 d hi];exact⟨fun h=>h.elim (fun h=>.inl ⟨hv,h⟩) .inr,fun h=>h.elim (fun h=>.inl h.2) .inr⟩
 intro d hi;rw[h2 d hi,m1 d hi,H d hi];constructor
 · rintro(⟨hn,rfl⟩ | ⟨⟨k,c,v,r1,r2,r3,rfl⟩,hne2⟩)
   · exact⟨k0,c0,n,(xX (P:=fun c=>c=c0) rfl).2 rfl,hc,hn,rfl⟩
   · by_cases hk:k=k0∧c=c0
     · obtain⟨rfl,rfl⟩:=hk;rcases hR v r1 with rfl | rfl
       · exact absurd rfl hne2
       · exact⟨k,c,v,(xX (P:=fun x=>x=c) rfl).2 rfl,r2,r3,rfl⟩
     · exact⟨k,c,v,(wV (P:=fun c=>c=c0) hk).2 r1,r2,r3,rfl⟩
 · rintro⟨k,c,v,r1,r2,r3,rfl⟩;by_cases hk:k=k0∧c=c0
   · obtain⟨rfl,rfl⟩:=hk;have r1:=(xX (P:=fun x=>x=c) rfl).1 r1;subst r1;exact .inl ⟨r3,rfl⟩
   · have r1:=(wV (P:=fun c=>c=c0) hk).1 r1;refine .inr ⟨⟨k,c,v,r1,r2,r3,rfl⟩,fun e=>?_⟩;have:=zJf e;exact hk ⟨this.1,this.2.1⟩
theorem zIM {g k0:ByteArray} {I:List ByteArray} {R:ByteArray→ByteArray→ByteArray→Prop} {fo fn:ByteArray→ByteArray} (hR:∀c v,R k0 c v↔v=fo c) :
 ∀(l:List ByteArray) (fs:List NodeD) (P:List ByteArray),xA fs=true→(∀c∈l,c∈I)→(∀c∈l,∀x∈zAb g k0 c (fo c)++zBP g k0 c (fn c),vF x=true) →
 zDK fs g I (upR R k0 (fun c=>c∈P) fn)→(zB0 fs (l.flatMap fun c=>if fo c=fn c then [] else zAb g k0 c (fo c)++zBP g k0 c (fn c))).1=0 →
 zDK (zB0 fs (l.flatMap fun c=>if fo c=fn c then [] else zAb g k0 c (fo c)++zBP g k0 c (fn c))).2 g I (upR R k0 (fun c=>c∈P∨c∈l) fn)
 | [],fs,P,_,_,_,H,_=>zAd H fun k c v _=>by rw[show(fun c=>c∈P∨c∈([]:List ByteArray))=(fun c=>c∈P) from funext fun c=>by simp]
 | c0::l,fs,P,ht,hI,hC,H,h0=>by
   rw[List.flatMap_cons,vP]at h0 ⊢
   have key:∀fs1,xA fs1=true→zDK fs1 g I (upR R k0 (fun c=>c∈c0::P) fn)→(zB0 fs1 (l.flatMap fun c=>if fo c=fn c then [] else zAb g k0 c (fo c)++zBP g k0 c (fn c))).1=0 →
    zDK (zB0 fs1 (l.flatMap fun c=>if fo c=fn c then [] else zAb g k0 c (fo c)++zBP g k0 c (fn c))).2 g I (upR R k0 (fun c=>c∈P∨c∈c0::l) fn):=fun fs1 t1 H1 h1=>by
    have h2:=zIM hR l fs1 (c0::P) t1 (fun c hc=>hI c (List.mem_cons_of_mem _ hc)) (fun c hc=>hC c (List.mem_cons_of_mem _ hc)) H1 h1
    rw[show(fun c=>c∈P∨c∈c0::l)=(fun c=>c∈c0::P∨c∈l) from funext fun c=>propext (by
     rw[List.mem_cons,List.mem_cons]
     exact⟨fun h=>h.elim (fun h=>.inl (.inr h)) (fun h=>h.elim (fun h=>.inl (.inl h)) .inr),fun h=>h.elim (fun h=>h.elim (fun h=>.inr (.inl h)) .inl) (fun h=>.inr (.inr h))⟩)]
    exact h2
   by_cases he:fo c0=fn c0
   · rw[if_pos he]at h0 ⊢;rw[show zB0 fs []=(0,fs) from rfl,if_pos rfl]at h0 ⊢;refine key fs ht (zAd H fun k c v _=>?_) h0;by_cases hk:k=k0∧c∈P
     · obtain⟨rfl,hk⟩:=hk;rw[xX hk,xX (List.mem_cons_of_mem _ hk)]
     · rw[wV hk];by_cases hk2:k=k0∧c∈c0::P
       · obtain⟨rfl,hk2⟩:=hk2;rw[xX hk2]
         have hc:c=c0:=by
          rcases List.mem_cons.1 hk2 with h | h
          · exact h
          · exact absurd ⟨rfl,h⟩ hk
         rw[hR,hc,he]
       · rw[wV hk2]
   · rw[if_neg he]at h0 ⊢;by_cases h1:(zB0 fs (zAb g k0 c0 (fo c0)++zBP g k0 c0 (fn c0))).1=0
     · rw[if_pos h1]at h0 ⊢;refine key _ (wS _ _ ht h1) ?_ h0;refine zAd (zKT ht H (hI c0 (by simp)) (fun v hv=>?_) he (hC c0 (by simp)) h1) fun k c v _=>?_
       · by_cases hP:c0∈P
         · exact .inr ((xX hP).1 hv)
         · exact .inl ((hR c0 v).1 ((wV (fun x=>hP x.2)).1 hv))
       · by_cases hk:k=k0∧c=c0
         · obtain⟨rfl,rfl⟩:=hk;rw[xX (P:=fun x=>x=c) rfl,xX (by simp)]
         · rw[wV (P:=fun x=>x=c0) hk];by_cases hk2:k=k0∧c∈P
           · obtain⟨rfl,hk2⟩:=hk2;rw[xX hk2,xX (List.mem_cons_of_mem _ hk2)]
           · rw[wV hk2,wV (fun x=>(List.mem_cons.1 x.2).elim (fun y=>hk ⟨x.1,y⟩) (fun y=>hk2 ⟨x.1,y⟩))]
     · rw[if_neg h1]at h0;exact absurd h0 h1
theorem zIS {g:ByteArray}:∀(cs:List ChgD) (fs:List NodeD),xA fs=true→zKf fs g→(∀x∈cs,vF x=true∧∃k c v,x=⟨1,g,[iS,c,v,k],⟨#[]⟩⟩)→(zB0 fs cs).1=0 →
 ∀d,xE g d=true→(d∈(zB0 fs cs).2↔d∈fs∨∃k c v,(⟨1,g,[iS,c,v,k],⟨#[]⟩⟩:ChgD)∈cs∧d=ent g k c v)
 | [],fs,_,_,_,_,d,_=>by simp[zB0]
 | x::cs,fs,ht,hF,hC,h0,d,hi=>by
   obtain⟨hch,k,c,v,rfl⟩:=hC x (by simp);have e:(⟨1,g,[iS,c,v,k],⟨#[]⟩⟩::cs:List ChgD)=[⟨1,g,[iS,c,v,k],⟨#[]⟩⟩]++cs:=rfl;rw[e,vP]at h0 ⊢;by_cases h1:(zB0 fs [⟨1,g,[iS,c,v,k],⟨#[]⟩⟩]).1=0
   · rw[if_pos h1]at h0 ⊢;obtain⟨p1,p2⟩:=zDi ht hch h1;have t1:=wS _ _ ht h1;rw[p2]at h0 t1 ⊢
     have hF1:zKf (yR fs g [iS,c,v,k] ⟨#[]⟩).2 g:=fun d' hd' hi'=>by
      rcases (zFT ht hF p1 d' hi').1 hd' with h | h
      · exact⟨k,c,v,h⟩
      · exact hF d' h hi'
     rw[zIS cs _ t1 hF1 (fun y hy=>hC y (List.mem_cons_of_mem _ hy)) h0 d hi,zFT ht hF p1 d hi];constructor
     · rintro((h | h) | ⟨k',c',v',h2,h3⟩)
       · exact .inr ⟨k,c,v,by simp,h⟩
       · exact .inl h
       · exact .inr ⟨k',c',v',List.mem_append_right _ h2,h3⟩
     · rintro(h | ⟨k',c',v',h2,h3⟩)
       · exact .inl (.inr h)
       · rcases List.mem_append.1 h2 with h2 | h2
         · rw[List.mem_singleton]at h2;simp only[ChgD.mk.injEq,List.cons.injEq,and_true,true_and]at h2;obtain⟨rfl,rfl,rfl⟩:=h2;exact .inl (.inl h3)
         · exact .inr ⟨k',c',v',h2,h3⟩
   · rw[if_neg h1]at h0;exact absurd h0 h1
end Go.Proofs.YtgmaamnofhmecaaGreatDoor
