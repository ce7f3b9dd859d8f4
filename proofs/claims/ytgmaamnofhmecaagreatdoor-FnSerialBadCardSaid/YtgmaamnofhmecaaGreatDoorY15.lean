import Derived.Test.YtgmaamnofhmecaaGreatDoorY01
import Derived.Test.YtgmaamnofhmecaaGreatDoorY12
import Derived.Test.YtgmaamnofhmecaaGreatDoorY09
import Derived.Test.YtgmaamnofhmecaaGreatDoorY14
import Derived.Test.YtgmaamnofhmecaaGreatDoorY13
import Derived.Test.YtgmaamnofhmecaaGreatDoorY11
import Derived.Test.YtgmaamnofhmecaaGreatDoorY00
import Derived.Deep.RegionHeld3
import Derived.Deep.AppendLies
import Derived.Lib.Join
import Derived.Lib.SplitLaws
set_option linter.unusedSimpArgs false
set_option maxHeartbeats 1000000
open Go.Lib renaming hid → zh
namespace Go.Proofs.YtgmaamnofhmecaaGreatDoor
open Go.RowKit
theorem wV {a b c:NodeD} (h1:vI a b=true) (h2:vI b c=true):vI a c=true:=by
 unfold vI at *;rw[zBa]at *;exact zGh _ _ _ _ _ _ h1 h2
theorem zEs {l:List NodeD} (h:xA l=true) (k:Nat) (hk:k+1<l.length):vI (l.getD k default) (l.getD (k+1) default)=true:=by
 unfold xA at h;rw[Bool.and_eq_true]at h;have h2:=(vW (uH l) l.length 0).1 h.2 (k+1) (by omega) (by omega);unfold uH at h2;simp only[Bool.and_eq_true,Bool.or_eq_true,decide_eq_true_eq]at h2;rcases h2.2 with h3 | h3
 · omega
 · simpa using h3
theorem zDf {l:List NodeD} (h:xA l=true):∀(m i:Nat),i+m+1<l.length→vI (l.getD i default) (l.getD (i+m+1) default)=true
 | 0,i,hj=>zEs h i hj
 | m+1,i,hj=>wV (zDf h m i (by omega)) (zEs h (i+m+1) hj)
theorem zKa {l:List NodeD} (h:xA l=true):l.Pairwise fun a b=>vI a b=true:=by
 rw[List.pairwise_iff_getElem];intro i j hi hj hij;have:=zDf h (j-i-1) i (by omega);rw[show i+(j-i-1)+1=j by omega]at this;rw[List.getD_eq_getElem?_getD,List.getD_eq_getElem?_getD,List.getElem?_eq_getElem hi,List.getElem?_eq_getElem hj]at this;exact this
end Go.Proofs.YtgmaamnofhmecaaGreatDoor
namespace Go.Proofs.YtgmaamnofhmecaaGreatDoor
open Go.RowKit
set_option linter.unusedVariables false
def vU (nm:ByteArray) (ss:List ByteArray) (d:NodeD):Bool:=uU d.name d.subs nm ss
def atN (fs:List NodeD) (nm:ByteArray) (ss:List ByteArray):Nat:=(fs.takeWhile (vU nm ss)).length
def zDB (nm:ByteArray) (ss:List ByteArray) (d:NodeD):Bool:=decide (d.name=nm)&&decide (d.subs=ss)
def wJ (fs:List NodeD) (nm:ByteArray) (ss:List ByteArray):Bool:=decide (atN fs nm ss<fs.length)&&zDB nm ss (fs.getD (atN fs nm ss) default)
def uX (fs:List NodeD) (nm:ByteArray) (ss:List ByteArray) (v:ByteArray):List NodeD :=
 fs.take (atN fs nm ss)++⟨nm,ss,v⟩::fs.drop (if wJ fs nm ss=true then atN fs nm ss+1 else atN fs nm ss)
def vT (fs:List NodeD) (nm:ByteArray) (ss:List ByteArray) (v:ByteArray):Int × List NodeD :=
 if (!wJ fs nm ss&&decide (120≤fs.length))=true then (4,[]) else (0,uX fs nm ss v)
def inN (nm:ByteArray) (ss:List ByteArray) (d:NodeD):Bool:=decide (d.name=nm)&&yB ss d.subs
def uT (fs:List NodeD) (nm:ByteArray) (ss:List ByteArray):List NodeD:=fs.filter fun d=>!inN nm ss d
theorem yX {α:Type} [Inhabited α] (p:α→Bool):∀(l:List α) (k:Nat),k≤l.length→(∀j,j<k→p (l.getD j default)=true)→(k=l.length∨p (l.getD k default)=false)→(l.takeWhile p).length=k
 | [],k,h,_,_=>by simp at h;simp[h]
 | x::r,0,_,_,h2=>by
   rcases h2 with h2 | h2
   · simp at h2
   · simp only[List.getD_cons_zero]at h2;simp[h2]
 | x::r,k+1,h,h1,h2=>by have h0:=h1 0 (by omega);simp only[List.getD_cons_zero]at h0;have ih:=yX p r k (by simpa using h) (fun j hj=>by simpa using h1 (j+1) (by omega)) (by simpa using h2);simp[h0,ih]
theorem yZ {α:Type} [Inhabited α] (p:α→Bool):∀(l:List α),(l.takeWhile p).length≤l.length∧(∀j,j<(l.takeWhile p).length→p (l.getD j default)=true)∧((l.takeWhile p).length<l.length→p (l.getD (l.takeWhile p).length default)=false)
 | []=>by simp
 | x::r=>by
   obtain⟨h1,h2,h3⟩:=yZ p r;by_cases h:p x=true
   · rw[List.takeWhile_cons,if_pos h];refine⟨by simpa using h1,fun j hj=>?_,fun hl=>?_⟩
     · match j with
       | 0=>simpa using h
       | j+1=>simpa using h2 j (by simpa using hj)
     · simpa using h3 (by simpa using hl)
   · rw[List.takeWhile_cons,if_neg h];refine⟨by simp,fun j hj=>absurd hj (by simp),fun _=>by simpa using h⟩
theorem zKR {fs:List NodeD} {nm:ByteArray} {ss:List ByteArray} {k:Nat} (hk:k≤fs.length) (h1:∀j,j<k→vU nm ss (fs.getD j default)=true) (h2:k=fs.length∨vU nm ss (fs.getD k default)=false):atN fs nm ss=k:=yX _ _ _ hk h1 h2
theorem zFB (fs:List NodeD) (nm:ByteArray) (ss:List ByteArray):atN fs nm ss≤fs.length:=(yZ _ fs).1
theorem tree_iff {l:List NodeD}:xA l=true↔l.length≤120∧(∀d∈l,yR d=true)∧l.Pairwise fun a b=>vI a b=true:=by
 constructor
 · intro h;refine⟨?_,fun d hd=>?_,zKa h⟩
   · unfold xA at h;rw[Bool.and_eq_true]at h;exact of_decide_eq_true h.1
   · unfold xA at h;rw[Bool.and_eq_true]at h;obtain⟨i,hi,rfl⟩:=List.getElem_of_mem hd;have h2:=(vW (uH l) l.length 0).1 h.2 i (by omega) (by omega);unfold uH at h2;rw[Bool.and_eq_true,List.getD_eq_getElem?_getD,List.getElem?_eq_getElem hi]at h2;exact h2.1
 · rintro⟨h1,h2,h3⟩;unfold xA;rw[Bool.and_eq_true];refine⟨decide_eq_true h1,(vW (uH l) l.length 0).2 fun j _ hj=>?_⟩;have hj:j<l.length:=by omega
   unfold uH;rw[Bool.and_eq_true];refine⟨h2 _ (zE0 l j hj),?_⟩;by_cases h0:j=0
   · simp[h0]
   · rw[Bool.or_eq_true];refine .inr ?_;have:=List.pairwise_iff_getElem.1 h3 (j-1) j (by omega) hj (by omega);rw[List.getD_eq_getElem?_getD,List.getD_eq_getElem?_getD,List.getElem?_eq_getElem hj,List.getElem?_eq_getElem (show j-1<l.length by omega)];exact this
theorem zGN {a b c:NodeD} (h1:vI a b=true) (h2:vI b c=true):vI a c=true:=wV h1 h2
theorem zCt:∀(a b:List ByteArray),a≠b→vE a b=true∨vE b a=true
 | [],[],h=>absurd rfl h
 | [],_::_,_=>.inl rfl
 | _::_,[],_=>.inr rfl
 | x::r,y::s,h=>by
   unfold vE;by_cases e:x=y
   · subst e;rw[if_pos rfl,if_pos rfl];exact zCt r s (fun e=>h (by rw[e]))
   · rw[if_neg e,if_neg (fun e2=>e e2.symm)];exact zFA x y e
theorem zGi {n n':ByteArray} {s s':List ByteArray} (h:¬(n=n'∧s=s')):zAw n s n' s'=true∨zAw n' s' n s=true:=by
 unfold zAw;by_cases e:n=n'
 · subst e;rw[if_pos rfl,if_pos rfl];exact zCt s s' (fun e=>h ⟨rfl,e⟩)
 · rw[if_neg e,if_neg (fun e2=>e e2.symm)]
   cases h1:Op.bytesLess n.toList n'.toList with
   | true=>exact .inl rfl
   | false =>
     cases h2:Op.bytesLess n'.toList n.toList with
     | true=>exact .inr rfl
     | false=>exact absurd (xM (zDP _ _ h1 h2)) e
theorem zFO {a b:NodeD} (h:¬(a.name=b.name∧a.subs=b.subs)):vI a b=true∨vI b a=true:=by
 unfold vI;rw[zBa,zBa];exact zGi h
theorem zIy {fs:List NodeD} (h:xA fs=true) (nm:ByteArray) (ss:List ByteArray) (v:ByteArray) :
 (∀d∈fs.take (atN fs nm ss),vI d ⟨nm,ss,v⟩=true)∧(∀d∈fs.drop (if wJ fs nm ss=true then atN fs nm ss+1 else atN fs nm ss),vI ⟨nm,ss,v⟩ d=true):=by
 obtain⟨h1,h2,h3⟩:=yZ (vU nm ss) fs;obtain⟨_,_,hp⟩:=tree_iff.1 h;refine⟨fun d hd=>?_,?_⟩
 · obtain⟨i,hi,rfl⟩:=List.mem_take_iff_getElem.1 hd;have hi2:i<fs.length:=by omega
   have h4:=h2 i (by unfold atN at hi;omega);rw[List.getD_eq_getElem?_getD,List.getElem?_eq_getElem hi2]at h4;exact h4
 · by_cases hh:wJ fs nm ss=true
   · rw[if_pos hh];intro d hd;unfold wJ zDB at hh;simp only[Bool.and_eq_true,decide_eq_true_eq]at hh;obtain⟨hl,e1,e2⟩:=hh;obtain⟨i,hi,rfl⟩:=List.mem_drop_iff_getElem.1 hd;have:=List.pairwise_iff_getElem.1 hp (atN fs nm ss) (atN fs nm ss+1+i) hl (by omega) (by omega);rw[List.getD_eq_getElem?_getD,List.getElem?_eq_getElem hl,Option.getD_some]at e1 e2;unfold vI at this ⊢;rw[e1,e2]at this;exact this
   · rw[if_neg hh];intro d hd;obtain⟨i,hi,rfl⟩:=List.mem_drop_iff_getElem.1 hd;have hl:atN fs nm ss<fs.length:=by omega
     have h4:=h3 (by unfold atN at hl;exact hl)
     have h5:vI ⟨nm,ss,v⟩ fs[atN fs nm ss]=true:=by
      have hne:¬(fs[atN fs nm ss].name=nm∧fs[atN fs nm ss].subs=ss):=fun ⟨e1,e2⟩=>hh (by
       unfold wJ zDB;rw[List.getD_eq_getElem?_getD,List.getElem?_eq_getElem hl,Option.getD_some,e1,e2]
       simp[hl])
      rcases zFO (a:=fs[atN fs nm ss]) (b:=⟨nm,ss,v⟩) hne with h6 | h6
      · exfalso;have h7:vU nm ss (fs.getD (atN fs nm ss) default)=false:=h4;rw[List.getD_eq_getElem?_getD,List.getElem?_eq_getElem hl,Option.getD_some]at h7;have h8:vI fs[atN fs nm ss] ⟨nm,ss,v⟩=vU nm ss fs[atN fs nm ss]:=rfl;rw[h8,h7]at h6;cases h6
      · exact h6
     by_cases h0:i=0
     · subst h0;simpa using h5
     · have:=List.pairwise_iff_getElem.1 hp (atN fs nm ss) (atN fs nm ss+i) hl (by omega) (by omega);exact wV h5 this
theorem zFW {fs:List NodeD} {nm:ByteArray} {ss:List ByteArray} {v:ByteArray} (h:xA fs=true) (hp:wD nm ss=true) (hv:v.size≤64) (h0:(vT fs nm ss v).1=0):xA (vT fs nm ss v).2=true:=by
 unfold vT at h0 ⊢;split at h0
 · cases h0
 · next hn =>
   rw[if_neg hn];obtain⟨h1,h2⟩:=zIy h nm ss v;obtain⟨g1,g2,g3⟩:=tree_iff.1 h;have hle:=zFB fs nm ss;refine tree_iff.2 ⟨?_,fun d hd=>?_,?_⟩
   · unfold uX;rw[List.length_append,List.length_cons,List.length_take,List.length_drop];by_cases hh:wJ fs nm ss=true
     · rw[if_pos hh];have:atN fs nm ss<fs.length:=by unfold wJ at hh;rw[Bool.and_eq_true]at hh;exact of_decide_eq_true hh.1
       omega
     · rw[if_neg hh];have h3:¬120≤fs.length:=fun h3=>hn (by simp[hh,h3]);omega
   · unfold uX at hd;rcases List.mem_append.1 hd with h3 | h3
     · exact g2 d (List.mem_of_mem_take h3)
     · rcases List.mem_cons.1 h3 with h4 | h4
       · subst h4;unfold yR;rw[hp,decide_eq_true hv];rfl
       · exact g2 d (List.mem_of_mem_drop h4)
   · unfold uX;rw[List.pairwise_append,List.pairwise_cons];refine⟨g3.sublist (List.take_sublist _ _),⟨h2,g3.sublist (List.drop_sublist _ _)⟩,fun a ha b hb=>?_⟩;rcases List.mem_cons.1 hb with h4 | h4
     · subst h4;exact h1 a ha
     · exact wV (h1 a ha) (h2 b h4)
theorem zIJ {fs:List NodeD} (nm:ByteArray) (ss:List ByteArray) (h:xA fs=true):xA (uT fs nm ss)=true:=by
 obtain⟨g1,g2,g3⟩:=tree_iff.1 h;exact tree_iff.2 ⟨Nat.le_trans (List.length_filter_le _ _) g1,fun d hd=>g2 d (List.mem_filter.1 hd).1,g3.filter _⟩
theorem zJi:xA []=true:=tree_iff.2 ⟨by simp,fun d hd=>by simp at hd,List.Pairwise.nil⟩
theorem zC0 {fs:List NodeD} (h:xA fs=true):yC fs:=by
 obtain⟨g1,g2,_⟩:=tree_iff.1 h;refine⟨by omega,fun d hd=>?_⟩;have h2:=g2 d hd;unfold yR wD xF xC at h2;simp only[Bool.and_eq_true,decide_eq_true_eq,List.all_eq_true]at h2;obtain⟨⟨⟨a1,_⟩,b1,b2⟩,c1⟩:=h2;refine⟨by omega,⟨by omega,fun s hs=>?_⟩,by omega⟩;have:=b2 s hs;unfold xG at this;simp only[Bool.and_eq_true,decide_eq_true_eq]at this;omega
structure ChgD where
 kind:Int
 name:ByteArray
 subs:List ByteArray
 val:ByteArray
deriving Inhabited
def vR (c:ChgD):Bool:=wD c.name c.subs&&((decide (c.kind=1)&&decide (c.val.size≤64))||(decide (c.kind=2)&&decide (c.val=⟨#[]⟩)))
def doB (fs:List NodeD) (c:ChgD):Int × List NodeD:=if c.kind=1 then vT fs c.name c.subs c.val else (0,uT fs c.name c.subs)
def uJ (fs:List NodeD) (c:ChgD):Int × List NodeD:=if (xA fs&&vR c)=true then doB fs c else (1,[])
theorem zDH {fs:List NodeD} {c:ChgD} (h0:(uJ fs c).1=0):xA (uJ fs c).2=true:=by
 unfold uJ at h0 ⊢;split at h0;case isFalse=>cases h0
 case isTrue h =>
  rw[if_pos h];rw[Bool.and_eq_true]at h;obtain⟨h1,h2⟩:=h;unfold vR at h2;rw[Bool.and_eq_true]at h2;unfold doB at h0 ⊢;split at h0
  · next hk=>rw[if_pos hk];refine zFW h1 h2.1 ?_ h0;have:=h2.2;rw[hk]at this;simpa using this
  · next hk=>rw[if_neg hk];exact zIJ _ _ h1
end Go.Proofs.YtgmaamnofhmecaaGreatDoor
namespace Go.Proofs.YtgmaamnofhmecaaGreatDoor
open Go.RowKit
set_option linter.unusedVariables false
def ChgR (w:World) (B:Nat) (c0 c1 c2 c3:Value) (d:ChgD):Prop :=
 c0=.int .i64 d.kind∧c1=.string d.name∧(∃A n cap,c2=.slice A n cap∧Strs w B A n d.subs∧n≤cap)∧c3=.string d.val
theorem ChgR.keep {w w':World} {B:Nat} {c0 c1 c2 c3:Value} {d:ChgD} (h:ChgR w B c0 c1 c2 c3 d) (hk:∀p:Addr,p.block<B→w'.cell? p=w.cell? p):ChgR w' B c0 c1 c2 c3 d:=by
 obtain⟨e0,e1,⟨A1,n1,p1,e2,s1,k1⟩,e3⟩:=h;exact⟨e0,e1,⟨A1,n1,p1,e2,s1.keep hk,k1⟩,e3⟩
theorem ChgR.more {w:World} {B B':Nat} {c0 c1 c2 c3:Value} {d:ChgD} (h:ChgR w B c0 c1 c2 c3 d) (hB:B≤B'):ChgR w B' c0 c1 c2 c3 d:=by
 obtain⟨e0,e1,⟨A1,n1,p1,e2,s1,k1⟩,e3⟩:=h;exact⟨e0,e1,⟨A1,n1,p1,e2,s1.more hB,k1⟩,e3⟩
theorem ChgR.later {w w':World} {c0 c1 c2 c3:Value} {d:ChgD} (h:ChgR w w.heap.size c0 c1 c2 c3 d) (hb:Below w.heap.size w w'):ChgR w' w'.heap.size c0 c1 c2 c3 d :=
 (h.keep fun _ hp=>hb.cell hp).more hb.size
def ChgD.small (d:ChgD):Prop:=d.name.size≤1048576∧(d.subs.length≤1048576∧∀s∈d.subs,s.size≤1048576)∧d.val.size≤1048576
def NodesO (w:World) (base:Nat) (v:Value) (fs:List NodeD):Prop:=∃vs,Own.OwnL zBA w base 102 v fs vs
theorem NodesO.later {w w':World} {base:Nat} {v:Value} {fs:List NodeD} (h:NodesO w base v fs) (hb:Below w.heap.size w w'):NodesO w' base v fs:=by
 obtain⟨vs,h1⟩:=h;exact⟨vs,h1.later hb⟩
theorem NodesO.base {w:World} {base base':Nat} {v:Value} {fs:List NodeD} (h:NodesO w base' v fs) (hb:base≤base'):NodesO w base v fs:=by
 obtain⟨vs,h1⟩:=h;exact⟨vs,h1.base hb⟩
theorem NodesO.reads {w:World} {base:Nat} {v:Value} {fs:List NodeD} (h:NodesO w base v fs):∃A cap,v=.slice A fs.length cap∧fs.length≤cap∧Nodes w w.heap.size A fs.length fs:=by
 obtain⟨vs,h1⟩:=h;exact OwnL.Nodes h1
theorem zHr (w:World) (base:Nat) (h:base≤w.heap.size):NodesO (w.alloc (.cells #[] 102)) base (.slice (some ⟨w.heap.size,0,none⟩) 0 0) [] :=
 ⟨[],rfl,World.ownsRow_lit (e:=102) (size:=3) w #[] 0 h (by omega) rfl,fun j hj=>by simp at hj,List.Pairwise.nil⟩
theorem wI (w:World) (base:Nat):NodesO w base (.slice none 0 0) []:=⟨[],Own.OwnL.nil _ _ _⟩
def zJf (fs:List NodeD) (w:World) (e:Ending) (w':World):Prop:=∃v,e=.returned v∧NodesO w' w.heap.size v fs∧Below w.heap.size w w'
theorem CellsG.append {α:Type} {sz:Nat} {R:List Value→α→Prop}:∀{fs gs:List α} {cs ds:List Value},CellsG sz R fs cs→CellsG sz R gs ds→CellsG sz R (fs++gs) (cs++ds)
 | [],gs,cs,ds,h,h'=>by have h:cs=[]:=h;subst h;exact h'
 | f::r,gs,cs,ds,h,h'=>by obtain⟨c,cs',rfl,hl,hd,hr⟩:=h;exact⟨c,cs'++ds,by rw[List.append_assoc],hl,hd,CellsG.append hr h'⟩
theorem CellsG.drop {α:Type} {sz:Nat} {R:List Value→α→Prop}:∀{fs:List α} {cs:List Value} (k:Nat),CellsG sz R fs cs→CellsG sz R (fs.drop k) (cs.drop (k*sz))
 | [],cs,k,h=>by have h:cs=[]:=h;subst h;simp[CellsG]
 | d::r,cs,0,h=>by simpa using h
 | d::r,cs,k+1,h=>by obtain⟨c,cs',rfl,hl,hd,hr⟩:=h;rw[show(k+1)*sz=c.length+k*sz by rw[hl,Nat.add_mul];omega,List.drop_length_add_append,List.drop_succ_cons];exact CellsG.drop k hr
def zAM (r:Int × List NodeD) (w:World) (e:Ending) (w':World):Prop:=∃v,e=.returned (.tuple #[.agg #[v],.int .i64 r.1])∧NodesO w' w.heap.size v r.2∧Below w.heap.size w w'
def zGQ (fs:List NodeD) (w:World) (e:Ending) (w':World):Prop:=∃v,e=.returned (.agg #[v])∧NodesO w' w.heap.size v fs∧Below w.heap.size w w'
end Go.Proofs.YtgmaamnofhmecaaGreatDoor
namespace Go.Proofs.YtgmaamnofhmecaaGreatDoor
open Go.RowKit Go.Proofs.YtgmaamnofhmecaaGreatDoor.Own
theorem Blk.at {w:World} {g:Nat} {t:TypeId} {cs:Array Value} (h:Blk w g t cs) (i:Nat) {v:Value} (hv:cs[i]?=some v):w.cell? ⟨g,i,none⟩=some v:=(h.cell i).trans hv
end Go.Proofs.YtgmaamnofhmecaaGreatDoor
namespace Go.Proofs.YtgmaamnofhmecaaGreatDoor
open Go.RowKit
theorem zBe (ss:List ByteArray):∀u∈ss.map Value.string,u.oneCell'=true:=by
 intro u hu;obtain⟨s,_,rfl⟩:=List.mem_map.1 hu;rfl
end Go.Proofs.YtgmaamnofhmecaaGreatDoor
namespace Go.Proofs.YtgmaamnofhmecaaGreatDoor
open Go.RowKit
set_option linter.unusedVariables false
theorem zGs (A A':Option Addr) (n c n' c':Nat) (ss ts:List ByteArray) (w:World) (h:Strs w w.heap.size A n ss) (h':Strs w w.heap.size A' n' ts) (hn:n≤1048576) (hn':n'≤1048576) :
 Calls Tryz.prog 139 #[.slice A n c,.slice A' n' c'] w fun e w'=>e=.returned (.bool (eqS ss ts))∧∃q,w'=w.drewN q:=by
 obtain⟨hlen,hc⟩:=h;obtain⟨hlen',hc'⟩:=h';have hE:=zAc ss ts;rw[hlen,hlen']at hE;have Hc:=zh hc;have Hlen:=zh hlen;have Hc':=zh hc';have Hlen':=zh hlen';clear hc hlen hc' hlen';by_cases hne:n=n'
 · subst hne;have HE:Hid (eqS ss ts=yB ss ts):=by unfold Hid;rw[←hE];simp
   clear hE;generalize eqS ss ts=R at *;go_enter Tryz.func139,Tryz.ntmps139;go_wp2_with fail;go_loopw [5] (fun i wr=>∃(k:Nat),k≤n∧i=.int .i64 k∧(∃q,wr=w.drewN q)∧Hid (yB ss ts=yB (ss.drop k) (ts.drop k))) (fun i _=>n-(intOf i).toNat);case atStart=>exact⟨0,Nat.zero_le _,rfl,⟨0,rfl⟩,rfl⟩
   case round =>
    obtain⟨k,hk,rfl,⟨q,rfl⟩,hS⟩:=hrel;by_cases hlt:k<n
    · obtain⟨b,o,rfl,hb,hcell⟩:=Hc.out (by omega);obtain⟨b',o',rfl,hb',hcell'⟩:=Hc'.out (by omega);have hck:=hcell k hlt;have hck':=hcell' k (by omega);clear hcell hcell';have HS:=zh (xZ ss ts k (by rw[Hlen.out];exact hlt) (by rw[Hlen'.out];omega));generalize ss.getD k ByteArray.empty=s at *;generalize ts.getD k ByteArray.empty=t at *;go_wp2_with fail
      go_quiet (fail)
      go_wp2_with fail
      · go_ret;have hst:s≠t:=zEZ (by assumption);exact⟨zA0 (by rw[HE.out,hS.out,HS.out,decide_eq_false hst];rfl),_,World.drewN_drewN _ _ _⟩
      · go_roundw;case rel=>have hst:s=t:=zFb (by assumption);exact⟨k+1,by omega,by go_num,⟨_,rfl⟩,by unfold Hid;rw[hS.out,HS.out,decide_eq_true hst];rfl⟩
        case measure=>simp[intOf];omega
    · go_wp2_with fail;go_ret;exact⟨zA0 (by rw[HE.out,hS.out,List.drop_of_length_le (by rw[Hlen.out];omega),zAs]),_,rfl⟩
 · have HE:Hid (false=eqS ss ts):=by unfold Hid;rw[←hE];simp[hne]
   have hb:((n:Int)==(n':Int))=false:=by rw[beq_eq_false_iff_ne];omega
   have hb2:(n==n')=false:=by rw[beq_eq_false_iff_ne];omega
   clear hE hne;go_enter Tryz.func139,Tryz.ntmps139;go_wp2_with fail;go_ret;exact⟨zA0 HE.out,0,rfl⟩
theorem zAg (A A':Option Addr) (n c n' c':Nat) (ss ts:List ByteArray) (w:World) (h:Strs w w.heap.size A n ss) (h':Strs w w.heap.size A' n' ts) (hn:n≤1048576) (hn':n'≤1048576) :
 Calls Tryz.prog 62 #[.slice A n c,.slice A' n' c'] w fun e w'=>e=.returned (.bool (eqS ss ts))∧∃q,w'=w.drewN q:=by
 have HK:=zh (zGs A A' n c n' c' ss ts w h h' hn hn');clear h h';generalize eqS ss ts=x at *;go_enter Tryz.func62,Tryz.ntmps62;go_wp2_with fail;refine HK.out.mono ?_;rintro e w1 ⟨rfl,q,rfl⟩;go_wp2_with fail;go_ret;exact⟨rfl,q,rfl⟩
set_option maxRecDepth 100000 in
theorem zCw (A:Option Addr) (n c:Nat) (ss:List ByteArray) (w:World) (h:Strs w w.heap.size A n ss) (hn:n≤1048576) :
 Calls Tryz.prog 140 #[.slice A n c] w fun e w'=>∃A' c',e=.returned (.slice A' n c')∧n≤c'∧Own.SubO w' w.heap.size (.slice A' n c') ss∧Below w.heap.size w w':=by
 have HN:=zh h.1;obtain⟨i0,hi,hz0,hz1,hz2⟩:=info_parts zED;have Hh:=zh (zDi h);clear h;go_enter Tryz.func140,Tryz.ntmps140;go_wp2_with (at_builtin;refine uF _ rfl (.tmp 3) (.tmp 4) 27 rfl w.heap.size 9 i0 _ 1 16 Tryz.underlying27 hi hz0 hz1 hz2 rfl (by decide) _ 0 [] rfl (World.ownsRow_lit _ _ 0 (Nat.le_refl _) (by omega) rfl) w.heap.size A n c (ss.map Value.string) rfl (Hh.out.alloc (Nat.le_refl _) _) (zBe ss) ?c1 ?c2 ?c3 ?_);case c1=>unfold maxLen;omega
 case c2=>omega
 case c3=>simp
 intro v w1 ho hg _;have HB:=zh (zEQ (w0:=w) (size:=1) (n:=0) (xs:=[]) (Below.new _ _) (World.ownsRow_lit _ _ 0 (Nat.le_refl _) (by omega) rfl) (Nat.le_refl _) hg);obtain⟨A',c',rfl,hc,_,_⟩:=Own.own_slice ho;have HS:=zh ho;clear ho hg;go_wp2_with fail;go_ret;exact⟨A',c',rfl,hc,by unfold Own.SubO;rw[HN.out];exact HS.out,HB.out⟩
theorem zBf (A A':Option Addr) (n c n' c':Nat) (ss ts:List ByteArray) (w:World) (h:Strs w w.heap.size A n ss) (h':Strs w w.heap.size A' n' ts) (hn':n'≤1048576) (hc:n≤c) :
 Calls Tryz.prog 231 #[.slice A n c,.slice A' n' c'] w fun e w'=>e=.returned (.bool (yB ts ss))∧∃q,w'=w.drewN q:=by
 have hE:=wR ts ss;rw[h.1,h'.1]at hE;by_cases hle:n'≤n
 · have HK:=zh (zAg A A' n' c n' c' (ss.take n') ts w (h.take n' hle) h' (by omega) hn');have HE:Hid (eqS (ss.take n') ts=yB ts ss):=by unfold Hid;rw[←hE];simp[hle]
   clear h h' hE;generalize eqS (ss.take n') ts=x at *;go_enter Tryz.func231,Tryz.ntmps231;go_wp2_with fail;refine HK.out.mono ?_;rintro e w1 ⟨rfl,q,rfl⟩;go_wp2_with fail;go_ret;exact⟨zA0 HE.out,q,rfl⟩
 · have HE:Hid (false=yB ts ss):=by unfold Hid;rw[←hE];simp[hle]
   clear h h' hE;go_enter Tryz.func231,Tryz.ntmps231;go_wp2_with fail;go_ret;exact⟨zA0 HE.out,0,rfl⟩
theorem zEA (c0 c1 c2:Value) (A:Option Addr) (n c:Nat) (d:NodeD) (nm:ByteArray) (ss:List ByteArray) (w:World) (h:NodeR w w.heap.size c0 c1 c2 d) (h':Strs w w.heap.size A n ss) (hn:n≤1048576) :
 Calls Tryz.prog 180 #[.agg #[c0,c1,c2],.string nm,.slice A n c] w fun e w'=>e=.returned (.bool (inN nm ss d))∧Below w.heap.size w w':=by
 obtain⟨rfl,⟨A1,n1,p1,rfl,s1,k1⟩,rfl⟩:=h;have HR:Hid (inN nm ss d=(decide (d.name=nm)&&yB ss d.subs)):=rfl;have HK:=zh (zBf A1 A n1 p1 n c d.subs ss (w.alloc (.cells #[.string d.name,.slice A1 n1 p1,.string d.val] 102)) (s1.later (Below.new _ _)) (h'.later (Below.new _ _)) hn k1);clear s1 h';generalize inN nm ss d=R at *;generalize yB ss d.subs=x at *;generalize d.name=dn at *;generalize d.val=dv at *;by_cases he:dn=nm
 · subst he;have HE:Hid (R=x):=by unfold Hid;rw[HR.out];simp
   clear HR;go_enter Tryz.func180,Tryz.ntmps180;go_wp2_with fail;refine HK.out.mono ?_;rintro e w1 ⟨rfl,q,rfl⟩;go_wp2_with fail;go_ret;exact⟨zA0 HE.out.symm,vA (Below.new _ _) q⟩
 · have HE:Hid (R=false):=by unfold Hid;rw[HR.out];simp[he]
   have hb:=zG0 he;clear HR HK he;go_enter Tryz.func180,Tryz.ntmps180;go_wp2_with fail;go_ret;exact⟨zA0 HE.out.symm,Below.new _ _⟩
end Go.Proofs.YtgmaamnofhmecaaGreatDoor
