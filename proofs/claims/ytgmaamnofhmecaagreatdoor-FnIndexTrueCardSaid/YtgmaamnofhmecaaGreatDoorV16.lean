import Derived.Test.YtgmaamnofhmecaaGreatDoorV13
import Derived.Test.YtgmaamnofhmecaaGreatDoorV15
import Derived.Test.YtgmaamnofhmecaaGreatDoorV14
import Derived.Test.YtgmaamnofhmecaaGreatDoorV01
import Derived.Deep.RegionHeld3
namespace Go.Proofs.YtgmaamnofhmecaaGreatDoor
open Go.RowKit
theorem zBh {a b c:NodeD} (h1:zN0 a b=true) (h2:zN0 b c=true):zN0 a c=true:=by
 unfold zN0 at *;rw[zAE]at *;exact zGJ _ _ _ _ _ _ h1 h2
theorem yP {a b:NodeD} (hn:a.name=b.name) (hs:a.subs=b.subs):zN0 a b=false:=by
 unfold zN0;rw[zAE,hn,hs,←zFH,(zHq _ _ _ _).2 ⟨rfl,rfl⟩];rfl
theorem zFi {l:List NodeD} (h:xA l=true) (k:Nat) (hk:k+1<l.length):zN0 (l.getD k default) (l.getD (k+1) default)=true:=by
 unfold xA at h;rw[Bool.and_eq_true]at h;have h2:=(uO (vJ l) l.length 0).1 h.2 (k+1) (by omega) (by omega);unfold vJ at h2;simp only[Bool.and_eq_true,Bool.or_eq_true,decide_eq_true_eq]at h2;rcases h2.2 with h3 | h3
 · omega
 · simpa using h3
theorem zGv {l:List NodeD} (h:xA l=true):∀(m i:Nat),i+m+1<l.length→zN0 (l.getD i default) (l.getD (i+m+1) default)=true
 | 0,i,hj=>zFi h i hj
 | m+1,i,hj=>zBh (zGv h m i (by omega)) (zFi h (i+m+1) hj)
theorem zDN {l:List NodeD} (h:xA l=true):l.Pairwise fun a b=>zN0 a b=true:=by
 rw[List.pairwise_iff_getElem];intro i j hi hj hij;have:=zGv h (j-i-1) i (by omega);rw[show i+(j-i-1)+1=j by omega]at this;rw[List.getD_eq_getElem?_getD,List.getD_eq_getElem?_getD,List.getElem?_eq_getElem hi,List.getElem?_eq_getElem hj]at this;exact this
theorem zKj {l:List ByteArray} (h:l.length=2):l=[l.getD 0 ByteArray.empty,l.getD 1 ByteArray.empty]:=by
 match l,h with
 | [a,b],_=>rfl
end Go.Proofs.YtgmaamnofhmecaaGreatDoor
namespace Go.Proofs.YtgmaamnofhmecaaGreatDoor
open Go.RowKit
set_option linter.unusedVariables false
def zAh (nm:ByteArray) (ss:List ByteArray) (d:NodeD):Bool:=zAi d.name d.subs nm ss
def atN (fs:List NodeD) (nm:ByteArray) (ss:List ByteArray):Nat:=(fs.takeWhile (zAh nm ss)).length
def zDC (nm:ByteArray) (ss:List ByteArray) (d:NodeD):Bool:=decide (d.name=nm)&&decide (d.subs=ss)
def yU (fs:List NodeD) (nm:ByteArray) (ss:List ByteArray):Bool:=decide (atN fs nm ss<fs.length)&&zDC nm ss (fs.getD (atN fs nm ss) default)
def zBQ (fs:List NodeD) (nm:ByteArray) (ss:List ByteArray) (v:ByteArray):List NodeD :=
 fs.take (atN fs nm ss)++⟨nm,ss,v⟩::fs.drop (if yU fs nm ss=true then atN fs nm ss+1 else atN fs nm ss)
def yR (fs:List NodeD) (nm:ByteArray) (ss:List ByteArray) (v:ByteArray):Int × List NodeD :=
 if (!yU fs nm ss&&decide (120≤fs.length))=true then (4,[]) else (0,zBQ fs nm ss v)
def inN (nm:ByteArray) (ss:List ByteArray) (d:NodeD):Bool:=decide (d.name=nm)&&zG0 ss d.subs
def yM (fs:List NodeD) (nm:ByteArray) (ss:List ByteArray):List NodeD:=fs.filter fun d=>!inN nm ss d
theorem zBT {α:Type} [Inhabited α] (p:α→Bool):∀(l:List α) (k:Nat),k≤l.length→(∀j,j<k→p (l.getD j default)=true)→(k=l.length∨p (l.getD k default)=false)→(l.takeWhile p).length=k
 | [],k,h,_,_=>by simp at h;simp[h]
 | x::r,0,_,_,h2=>by
   rcases h2 with h2 | h2
   · simp at h2
   · simp only[List.getD_cons_zero]at h2;simp[h2]
 | x::r,k+1,h,h1,h2=>by have h0:=h1 0 (by omega);simp only[List.getD_cons_zero]at h0;have ih:=zBT p r k (by simpa using h) (fun j hj=>by simpa using h1 (j+1) (by omega)) (by simpa using h2);simp[h0,ih]
theorem zAI {α:Type} [Inhabited α] (p:α→Bool):∀(l:List α),(l.takeWhile p).length≤l.length∧(∀j,j<(l.takeWhile p).length→p (l.getD j default)=true)∧((l.takeWhile p).length<l.length→p (l.getD (l.takeWhile p).length default)=false)
 | []=>by simp
 | x::r=>by
   obtain⟨h1,h2,h3⟩:=zAI p r;by_cases h:p x=true
   · rw[List.takeWhile_cons,if_pos h];refine⟨by simpa using h1,fun j hj=>?_,fun hl=>?_⟩
     · match j with
       | 0=>simpa using h
       | j+1=>simpa using h2 j (by simpa using hj)
     · simpa using h3 (by simpa using hl)
   · rw[List.takeWhile_cons,if_neg h];refine⟨by simp,fun j hj=>absurd hj (by simp),fun _=>by simpa using h⟩
theorem zLM {fs:List NodeD} {nm:ByteArray} {ss:List ByteArray} {k:Nat} (hk:k≤fs.length) (h1:∀j,j<k→zAh nm ss (fs.getD j default)=true) (h2:k=fs.length∨zAh nm ss (fs.getD k default)=false):atN fs nm ss=k:=zBT _ _ _ hk h1 h2
theorem zIz (fs:List NodeD) (nm:ByteArray) (ss:List ByteArray):atN fs nm ss≤fs.length:=(zAI _ fs).1
theorem tree_iff {l:List NodeD}:xA l=true↔l.length≤120∧(∀d∈l,yY d=true)∧l.Pairwise fun a b=>zN0 a b=true:=by
 constructor
 · intro h;refine⟨?_,fun d hd=>?_,zDN h⟩
   · unfold xA at h;rw[Bool.and_eq_true]at h;exact of_decide_eq_true h.1
   · unfold xA at h;rw[Bool.and_eq_true]at h;obtain⟨i,hi,rfl⟩:=List.getElem_of_mem hd;have h2:=(uO (vJ l) l.length 0).1 h.2 i (by omega) (by omega);unfold vJ at h2;rw[Bool.and_eq_true,List.getD_eq_getElem?_getD,List.getElem?_eq_getElem hi]at h2;exact h2.1
 · rintro⟨h1,h2,h3⟩;unfold xA;rw[Bool.and_eq_true];refine⟨decide_eq_true h1,(uO (vJ l) l.length 0).2 fun j _ hj=>?_⟩;have hj:j<l.length:=by omega
   unfold vJ;rw[Bool.and_eq_true];refine⟨h2 _ (xD l j hj),?_⟩;by_cases h0:j=0
   · simp[h0]
   · rw[Bool.or_eq_true];refine .inr ?_;have:=List.pairwise_iff_getElem.1 h3 (j-1) j (by omega) hj (by omega);rw[List.getD_eq_getElem?_getD,List.getD_eq_getElem?_getD,List.getElem?_eq_getElem hj,List.getElem?_eq_getElem (show j-1<l.length by omega)];exact this
theorem zDx:∀(a b:List ByteArray),a≠b→zJ0 a b=true∨zJ0 b a=true
 | [],[],h=>absurd rfl h
 | [],_::_,_=>.inl rfl
 | _::_,[],_=>.inr rfl
 | x::r,y::s,h=>by
   unfold zJ0;by_cases e:x=y
   · subst e;rw[if_pos rfl,if_pos rfl];exact zDx r s (fun e=>h (by rw[e]))
   · rw[if_neg e,if_neg (fun e2=>e e2.symm)];exact zGh x y e
theorem zGK {n n':ByteArray} {s s':List ByteArray} (h:¬(n=n'∧s=s')):zBr n s n' s'=true∨zBr n' s' n s=true:=by
 unfold zBr;by_cases e:n=n'
 · subst e;rw[if_pos rfl,if_pos rfl];exact zDx s s' (fun e=>h ⟨rfl,e⟩)
 · rw[if_neg e,if_neg (fun e2=>e e2.symm)]
   cases h1:Op.bytesLess n.toList n'.toList with
   | true=>exact .inl rfl
   | false =>
     cases h2:Op.bytesLess n'.toList n.toList with
     | true=>exact .inr rfl
     | false=>exact absurd (uP (zEM _ _ h1 h2)) e
theorem zGy {a b:NodeD} (h:¬(a.name=b.name∧a.subs=b.subs)):zN0 a b=true∨zN0 b a=true:=by
 unfold zN0;rw[zAE,zAE];exact zGK h
theorem zCX {fs:List NodeD} (h:xA fs=true) (nm:ByteArray) (ss:List ByteArray) (v:ByteArray) :
 (∀d∈fs.take (atN fs nm ss),zN0 d ⟨nm,ss,v⟩=true)∧(∀d∈fs.drop (if yU fs nm ss=true then atN fs nm ss+1 else atN fs nm ss),zN0 ⟨nm,ss,v⟩ d=true):=by
 obtain⟨h1,h2,h3⟩:=zAI (zAh nm ss) fs;obtain⟨_,_,hp⟩:=tree_iff.1 h;refine⟨fun d hd=>?_,?_⟩
 · obtain⟨i,hi,rfl⟩:=List.mem_take_iff_getElem.1 hd;have hi2:i<fs.length:=by omega
   have h4:=h2 i (by unfold atN at hi;omega);rw[List.getD_eq_getElem?_getD,List.getElem?_eq_getElem hi2]at h4;exact h4
 · by_cases hh:yU fs nm ss=true
   · rw[if_pos hh];intro d hd;unfold yU zDC at hh;simp only[Bool.and_eq_true,decide_eq_true_eq]at hh;obtain⟨hl,e1,e2⟩:=hh;obtain⟨i,hi,rfl⟩:=List.mem_drop_iff_getElem.1 hd;have:=List.pairwise_iff_getElem.1 hp (atN fs nm ss) (atN fs nm ss+1+i) hl (by omega) (by omega);rw[List.getD_eq_getElem?_getD,List.getElem?_eq_getElem hl,Option.getD_some]at e1 e2;unfold zN0 at this ⊢;rw[e1,e2]at this;exact this
   · rw[if_neg hh];intro d hd;obtain⟨i,hi,rfl⟩:=List.mem_drop_iff_getElem.1 hd;have hl:atN fs nm ss<fs.length:=by omega
     have h4:=h3 (by unfold atN at hl;exact hl)
     have h5:zN0 ⟨nm,ss,v⟩ fs[atN fs nm ss]=true:=by
      have hne:¬(fs[atN fs nm ss].name=nm∧fs[atN fs nm ss].subs=ss):=fun ⟨e1,e2⟩=>hh (by
       unfold yU zDC;rw[List.getD_eq_getElem?_getD,List.getElem?_eq_getElem hl,Option.getD_some,e1,e2]
       simp[hl])
      rcases zGy (a:=fs[atN fs nm ss]) (b:=⟨nm,ss,v⟩) hne with h6 | h6
      · exfalso;have h7:zAh nm ss (fs.getD (atN fs nm ss) default)=false:=h4;rw[List.getD_eq_getElem?_getD,List.getElem?_eq_getElem hl,Option.getD_some]at h7;have h8:zN0 fs[atN fs nm ss] ⟨nm,ss,v⟩=zAh nm ss fs[atN fs nm ss]:=rfl;rw[h8,h7]at h6;cases h6
      · exact h6
     by_cases h0:i=0
     · subst h0;simpa using h5
     · have:=List.pairwise_iff_getElem.1 hp (atN fs nm ss) (atN fs nm ss+i) hl (by omega) (by omega);exact zBh h5 this
theorem zGD {fs:List NodeD} {nm:ByteArray} {ss:List ByteArray} {v:ByteArray} (h:xA fs=true) (hp:wC nm ss=true) (hv:v.size≤64) (h0:(yR fs nm ss v).1=0):xA (yR fs nm ss v).2=true:=by
 unfold yR at h0 ⊢;split at h0
 · cases h0
 · next hn =>
   rw[if_neg hn];obtain⟨h1,h2⟩:=zCX h nm ss v;obtain⟨g1,g2,g3⟩:=tree_iff.1 h;have hle:=zIz fs nm ss;refine tree_iff.2 ⟨?_,fun d hd=>?_,?_⟩
   · unfold zBQ;rw[List.length_append,List.length_cons,List.length_take,List.length_drop];by_cases hh:yU fs nm ss=true
     · rw[if_pos hh];have:atN fs nm ss<fs.length:=by unfold yU at hh;rw[Bool.and_eq_true]at hh;exact of_decide_eq_true hh.1
       omega
     · rw[if_neg hh];have h3:¬120≤fs.length:=fun h3=>hn (by simp[hh,h3]);omega
   · unfold zBQ at hd;rcases List.mem_append.1 hd with h3 | h3
     · exact g2 d (List.mem_of_mem_take h3)
     · rcases List.mem_cons.1 h3 with h4 | h4
       · subst h4;unfold yY;rw[hp,decide_eq_true hv];rfl
       · exact g2 d (List.mem_of_mem_drop h4)
   · unfold zBQ;rw[List.pairwise_append,List.pairwise_cons];refine⟨g3.sublist (List.take_sublist _ _),⟨h2,g3.sublist (List.drop_sublist _ _)⟩,fun a ha b hb=>?_⟩;rcases List.mem_cons.1 hb with h4 | h4
     · subst h4;exact h1 a ha
     · exact zBh (h1 a ha) (h2 b h4)
theorem zBJ {fs:List NodeD} (nm:ByteArray) (ss:List ByteArray) (h:xA fs=true):xA (yM fs nm ss)=true:=by
 obtain⟨g1,g2,g3⟩:=tree_iff.1 h;exact tree_iff.2 ⟨Nat.le_trans (List.length_filter_le _ _) g1,fun d hd=>g2 d (List.mem_filter.1 hd).1,g3.filter _⟩
theorem zDZ:xA []=true:=tree_iff.2 ⟨by simp,fun d hd=>by simp at hd,List.Pairwise.nil⟩
theorem xM {fs:List NodeD} (h:xA fs=true):wB fs:=by
 obtain⟨g1,g2,_⟩:=tree_iff.1 h;refine⟨by omega,fun d hd=>?_⟩;have h2:=g2 d hd;unfold yY wC xC yK at h2;simp only[Bool.and_eq_true,decide_eq_true_eq,List.all_eq_true]at h2;obtain⟨⟨⟨a1,_⟩,b1,b2⟩,c1⟩:=h2;refine⟨by omega,⟨by omega,fun s hs=>?_⟩,by omega⟩;have:=b2 s hs;unfold xS at this;simp only[Bool.and_eq_true,decide_eq_true_eq]at this;omega
theorem zHW {fs:List NodeD} (nm:ByteArray) (ss:List ByteArray) (v:ByteArray) (p:NodeD→Bool) (hp:∀d:NodeD,d.name=nm→d.subs=ss→p d=false):(zBQ fs nm ss v).filter p=fs.filter p:=by
 unfold zBQ;rw[List.filter_append,List.filter_cons,hp ⟨nm,ss,v⟩ rfl rfl,if_neg (by simp)]
 conv=>rhs;rw[←List.take_append_drop (atN fs nm ss) fs,List.filter_append]
 congr 1
 by_cases hh:yU fs nm ss=true
 · rw[if_pos hh];unfold yU zDC at hh;simp only[Bool.and_eq_true,decide_eq_true_eq]at hh;obtain⟨hl,e1,e2⟩:=hh;rw[List.drop_eq_getElem_cons hl,List.filter_cons];rw[List.getD_eq_getElem?_getD,List.getElem?_eq_getElem hl,Option.getD_some]at e1 e2;rw[hp _ e1 e2,if_neg (by simp)]
 · rw[if_neg hh]
structure ChgD where
 kind:Int
 name:ByteArray
 subs:List ByteArray
 val:ByteArray
deriving Inhabited
def vF (c:ChgD):Bool:=wC c.name c.subs&&((decide (c.kind=1)&&decide (c.val.size≤64))||(decide (c.kind=2)&&decide (c.val=⟨#[]⟩)))
def doB (fs:List NodeD) (c:ChgD):Int × List NodeD:=if c.kind=1 then yR fs c.name c.subs c.val else (0,yM fs c.name c.subs)
def vI (fs:List NodeD) (c:ChgD):Int × List NodeD:=if (xA fs&&vF c)=true then doB fs c else (1,[])
def zB0:List NodeD→List ChgD→Int × List NodeD
 | fs,[]=>(0,fs)
 | fs,c::r=>if (vI fs c).1=0 then zB0 (vI fs c).2 r else ((vI fs c).1,[])
def uA (fs:List NodeD) (cs:List ChgD):Int × List NodeD:=if xA fs=true then (if 120<cs.length then (4,[]) else zB0 fs cs) else (1,[])
theorem zFo (fs:List NodeD) (nm:ByteArray) (ss:List ByteArray) (v:ByteArray):(yR fs nm ss v).1=0∨yR fs nm ss v=(4,[]):=by
 unfold yR;split
 · exact .inr rfl
 · exact .inl rfl
theorem zAW {fs:List NodeD} {c:ChgD} (h0:(vI fs c).1=0):xA (vI fs c).2=true:=by
 unfold vI at h0 ⊢;split at h0;case isFalse=>cases h0
 case isTrue h =>
  rw[if_pos h];rw[Bool.and_eq_true]at h;obtain⟨h1,h2⟩:=h;unfold vF at h2;rw[Bool.and_eq_true]at h2;unfold doB at h0 ⊢;split at h0
  · next hk=>rw[if_pos hk];refine zGD h1 h2.1 ?_ h0;have:=h2.2;rw[hk]at this;simpa using this
  · next hk=>rw[if_neg hk];exact zBJ _ _ h1
theorem wS:∀(cs:List ChgD) (fs:List NodeD),xA fs=true→(zB0 fs cs).1=0→xA (zB0 fs cs).2=true
 | [],fs,h,_=>h
 | c::r,fs,h,h0=>by
   unfold zB0 at h0 ⊢;split at h0
   · next h1=>rw[if_pos h1];exact wS r _ (zAW h1) h0
   · next h1=>exact absurd h0 h1
theorem zEC {fs:List NodeD} {cs:List ChgD} (h0:(uA fs cs).1=0):xA (uA fs cs).2=true:=by
 unfold uA at h0 ⊢;split at h0
 · next h =>
   rw[if_pos h];split at h0
   · cases h0
   · next h1=>rw[if_neg h1];exact wS cs fs h h0
 · cases h0
end Go.Proofs.YtgmaamnofhmecaaGreatDoor
namespace Go.Proofs.YtgmaamnofhmecaaGreatDoor
open Go.RowKit
set_option linter.unusedVariables false
def ChgR (w:World) (B:Nat) (c0 c1 c2 c3:Value) (d:ChgD):Prop :=
 c0=.int .i64 d.kind∧c1=.string d.name∧(∃A n cap,c2=.slice A n cap∧Strs w B A n d.subs∧n≤cap)∧c3=.string d.val
theorem ChgR.keep {w w':World} {B:Nat} {c0 c1 c2 c3:Value} {d:ChgD} (h:ChgR w B c0 c1 c2 c3 d) (hk:∀p:Addr,p.block<B→w'.cell? p=w.cell? p):ChgR w' B c0 c1 c2 c3 d:=by
 obtain⟨e0,e1,⟨A1,n1,p1,e2,s1,k1⟩,e3⟩:=h;exact⟨e0,e1,⟨A1,n1,p1,e2,s1.keep hk,k1⟩,e3⟩
theorem ChgR.more {w:World} {B B':Nat} {c0 c1 c2 c3:Value} {d:ChgD} (h:ChgR w B c0 c1 c2 c3 d) (hB:B≤B'):ChgR w B' c0 c1 c2 c3 d:=by
 obtain⟨e0,e1,⟨A1,n1,p1,e2,s1,k1⟩,e3⟩:=h;exact⟨e0,e1,⟨A1,n1,p1,e2,s1.more hB,k1⟩,e3⟩
theorem ChgR.later {w w':World} {c0 c1 c2 c3:Value} {d:ChgD} (h:ChgR w w.heap.size c0 c1 c2 c3 d) (hb:Below w.heap.size w w'):ChgR w' w'.heap.size c0 c1 c2 c3 d :=
 (h.keep fun _ hp=>hb.cell hp).more hb.size
def Chgs (w:World) (B:Nat) (A:Option Addr) (n:Nat) (fs:List ChgD):Prop :=
 fs.length=n∧(0<n→∃b o,A=some ⟨b,o,none⟩∧b<B∧∀j,j<n→∃c0 c1 c2 c3,w.cell? ⟨b,o+j*4,none⟩=some c0∧w.cell? ⟨b,o+j*4+1,none⟩=some c1∧w.cell? ⟨b,o+j*4+2,none⟩=some c2∧w.cell? ⟨b,o+j*4+3,none⟩=some c3∧ChgR w B c0 c1 c2 c3 (fs.getD j default))
section
variable {w w':World} {B B' n:Nat} {A:Option Addr} {fs:List ChgD}
theorem Chgs.keep (h:Chgs w B A n fs) (hk:∀p:Addr,p.block<B→w'.cell? p=w.cell? p):Chgs w' B A n fs :=
 ⟨h.1,fun hn=>by
   obtain⟨b,o,e,hb,hc⟩:=h.2 hn;refine⟨b,o,e,hb,fun j hj=>?_⟩;obtain⟨c0,c1,c2,c3,h0,h1,h2,h3,hr⟩:=hc j hj
   exact⟨c0,c1,c2,c3,(hk _ hb).trans h0,(hk _ hb).trans h1,(hk _ hb).trans h2,(hk _ hb).trans h3,hr.keep hk⟩⟩
theorem Chgs.more (h:Chgs w B A n fs) (hB:B≤B'):Chgs w B' A n fs :=
 ⟨h.1,fun hn=>by
   obtain⟨b,o,e,hb,hc⟩:=h.2 hn;refine⟨b,o,e,by omega,fun j hj=>?_⟩;obtain⟨c0,c1,c2,c3,h0,h1,h2,h3,hr⟩:=hc j hj
   exact⟨c0,c1,c2,c3,h0,h1,h2,h3,hr.more hB⟩⟩
theorem Chgs.later (h:Chgs w w.heap.size A n fs) (hb:Below w.heap.size w w'):Chgs w' w'.heap.size A n fs:=(h.keep fun _ hp=>hb.cell hp).more hb.size
end
def ChgD.small (d:ChgD):Prop:=d.name.size≤1048576∧(d.subs.length≤1048576∧∀s∈d.subs,s.size≤1048576)∧d.val.size≤1048576
def NodesO (w:World) (base:Nat) (v:Value) (fs:List NodeD):Prop:=∃vs,Own.OwnL zGG w base 102 v fs vs
def uD:Own.Kind ChgD:=⟨4,fun d v=>[.int .i64 d.kind,.string d.name,v,.string d.val],fun d=>d.subs,fun _ _=>rfl,by decide⟩
def ChgsO (w:World) (base:Nat) (v:Value) (fs:List ChgD):Prop:=∃vs,Own.OwnL uD w base 88 v fs vs
theorem uT:(Tryz.prog.info? 88).map (fun i=>(i.zero,i.size,i.bytes))=some (some (.agg #[.int .i64 0,.string .empty,.slice none 0 0,.string .empty]),4,64):=by kernel_rfl
theorem NodesO.later {w w':World} {base:Nat} {v:Value} {fs:List NodeD} (h:NodesO w base v fs) (hb:Below w.heap.size w w'):NodesO w' base v fs:=by
 obtain⟨vs,h1⟩:=h;exact⟨vs,h1.later hb⟩
theorem ChgsO.later {w w':World} {base:Nat} {v:Value} {fs:List ChgD} (h:ChgsO w base v fs) (hb:Below w.heap.size w w'):ChgsO w' base v fs:=by
 obtain⟨vs,h1⟩:=h;exact⟨vs,h1.later hb⟩
theorem NodesO.base {w:World} {base base':Nat} {v:Value} {fs:List NodeD} (h:NodesO w base' v fs) (hb:base≤base'):NodesO w base v fs:=by
 obtain⟨vs,h1⟩:=h;exact⟨vs,h1.base hb⟩
theorem ChgsO.base {w:World} {base base':Nat} {v:Value} {fs:List ChgD} (h:ChgsO w base' v fs) (hb:base≤base'):ChgsO w base v fs:=by
 obtain⟨vs,h1⟩:=h;exact⟨vs,h1.base hb⟩
theorem NodesO.reads {w:World} {base:Nat} {v:Value} {fs:List NodeD} (h:NodesO w base v fs):∃A cap,v=.slice A fs.length cap∧fs.length≤cap∧Nodes w w.heap.size A fs.length fs:=by
 obtain⟨vs,h1⟩:=h;exact OwnL.Nodes h1
theorem ChgsO.reads {w:World} {base:Nat} {v:Value} {fs:List ChgD} (h:ChgsO w base v fs):∃A cap,v=.slice A fs.length cap∧fs.length≤cap∧Chgs w w.heap.size A fs.length fs:=by
 obtain⟨vs,h⟩:=h;obtain⟨A,cap,rfl,hc,_,hA⟩:=Own.own_slice h.row;refine⟨A,cap,rfl,hc,rfl,fun hn=>?_⟩;obtain⟨g,rfl,hg,_⟩:=hA hn;refine⟨g,0,rfl,hg,fun j hj=>?_⟩;have h0:=h.cellAt rfl j 0 hj (by decide);have h1:=h.cellAt rfl j 1 hj (by decide);have h2:=h.cellAt rfl j 2 hj (by decide);have h3:=h.cellAt rfl j 3 hj (by decide);obtain⟨A1,cap1,e1,hc1,hs1⟩:=(h.subs j hj).strs;refine⟨_,_,_,_,by rw[Nat.zero_add];exact h0,by rw[Nat.zero_add];exact h1,by rw[Nat.zero_add];exact h2,by rw[Nat.zero_add];exact h3,rfl,rfl,⟨A1,_,cap1,e1,hs1,hc1⟩,rfl⟩
theorem zIb (w:World) (base:Nat) (h:base≤w.heap.size):NodesO (w.alloc (.cells #[] 102)) base (.slice (some ⟨w.heap.size,0,none⟩) 0 0) [] :=
 ⟨[],rfl,World.ownsRow_lit (e:=102) (size:=3) w #[] 0 h (by omega) rfl,fun j hj=>by simp at hj,List.Pairwise.nil⟩
theorem wH (w:World) (base:Nat):NodesO w base (.slice none 0 0) []:=⟨[],Own.OwnL.nil _ _ _⟩
theorem vH (w:World) (base:Nat) (h:base≤w.heap.size):ChgsO (w.alloc (.cells #[] 88)) base (.slice (some ⟨w.heap.size,0,none⟩) 0 0) [] :=
 ⟨[],rfl,World.ownsRow_lit (e:=88) (size:=4) w #[] 0 h (by omega) rfl,fun j hj=>by simp at hj,List.Pairwise.nil⟩
theorem zAD (w:World) (base:Nat):ChgsO w base (.slice none 0 0) []:=⟨[],Own.OwnL.nil _ _ _⟩
def zKd (fs:List NodeD) (w:World) (e:Ending) (w':World):Prop:=∃v,e=.returned v∧NodesO w' w.heap.size v fs∧Below w.heap.size w w'
theorem CellsG.append {α:Type} {sz:Nat} {R:List Value→α→Prop}:∀{fs gs:List α} {cs ds:List Value},CellsG sz R fs cs→CellsG sz R gs ds→CellsG sz R (fs++gs) (cs++ds)
 | [],gs,cs,ds,h,h'=>by have h:cs=[]:=h;subst h;exact h'
 | f::r,gs,cs,ds,h,h'=>by obtain⟨c,cs',rfl,hl,hd,hr⟩:=h;exact⟨c,cs'++ds,by rw[List.append_assoc],hl,hd,CellsG.append hr h'⟩
theorem CellsG.drop {α:Type} {sz:Nat} {R:List Value→α→Prop}:∀{fs:List α} {cs:List Value} (k:Nat),CellsG sz R fs cs→CellsG sz R (fs.drop k) (cs.drop (k*sz))
 | [],cs,k,h=>by have h:cs=[]:=h;subst h;simp[CellsG]
 | d::r,cs,0,h=>by simpa using h
 | d::r,cs,k+1,h=>by obtain⟨c,cs',rfl,hl,hd,hr⟩:=h;rw[show(k+1)*sz=c.length+k*sz by rw[hl,Nat.add_mul];omega,List.drop_length_add_append,List.drop_succ_cons];exact CellsG.drop k hr
def zAj (r:Int × List NodeD) (w:World) (e:Ending) (w':World):Prop:=∃v,e=.returned (.tuple #[.agg #[v],.int .i64 r.1])∧NodesO w' w.heap.size v r.2∧Below w.heap.size w w'
def zBD (r:Int × List ChgD) (w:World) (e:Ending) (w':World):Prop:=∃v,e=.returned (.tuple #[v,.int .i64 r.1])∧ChgsO w' w.heap.size v r.2∧Below w.heap.size w w'
def zHy (fs:List NodeD) (w:World) (e:Ending) (w':World):Prop:=∃v,e=.returned (.agg #[v])∧NodesO w' w.heap.size v fs∧Below w.heap.size w w'
def xN (cs:List ChgD) (w:World) (e:Ending) (w':World):Prop:=∃v,e=.returned v∧ChgsO w' w.heap.size v cs∧Below w.heap.size w w'
end Go.Proofs.YtgmaamnofhmecaaGreatDoor
namespace Go.Proofs.YtgmaamnofhmecaaGreatDoor
open Go.RowKit Go.Proofs.YtgmaamnofhmecaaGreatDoor.Own
theorem Blk.at {w:World} {g:Nat} {t:TypeId} {cs:Array Value} (h:Blk w g t cs) (i:Nat) {v:Value} (hv:cs[i]?=some v):w.cell? ⟨g,i,none⟩=some v:=(h.cell i).trans hv
end Go.Proofs.YtgmaamnofhmecaaGreatDoor
