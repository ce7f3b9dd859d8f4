import Derived.Test.YtfpcjhajjejpdaaGreatDoorY12
import Derived.Test.YtfpcjhajjejpdaaGreatDoorY11
import Derived.Test.YtfpcjhajjejpdaaGreatDoorY00
import Derived.Test.YtfpcjhajjejpdaaGreatDoorY07
import Derived.Deep.RegionHeld3
import Derived.Lib.Join
import Derived.Lib.SplitLaws
namespace Go.Proofs.YtfpcjhajjejpdaaGreatDoor
open Go.RowKit
set_option linter.unusedVariables false
def zAH (nm:ByteArray) (ss:List ByteArray) (d:NodeD):Bool:=zAI d.name d.subs nm ss
def atN (fs:List NodeD) (nm:ByteArray) (ss:List ByteArray):Nat:=(fs.takeWhile (zAH nm ss)).length
def zIx (nm:ByteArray) (ss:List ByteArray) (d:NodeD):Bool:=decide (d.name=nm)&&decide (d.subs=ss)
def zBI (fs:List NodeD) (nm:ByteArray) (ss:List ByteArray):Bool:=decide (atN fs nm ss<fs.length)&&zIx nm ss (fs.getD (atN fs nm ss) default)
def zFN (fs:List NodeD) (nm:ByteArray) (ss:List ByteArray) (v:ByteArray):List NodeD :=
 fs.take (atN fs nm ss)++⟨nm,ss,v⟩::fs.drop (if zBI fs nm ss=true then atN fs nm ss+1 else atN fs nm ss)
def zDw (fs:List NodeD) (nm:ByteArray) (ss:List ByteArray) (v:ByteArray):Int × List NodeD :=
 if (!zBI fs nm ss&&decide (120≤fs.length))=true then (4,[]) else (0,zFN fs nm ss v)
def inN (nm:ByteArray) (ss:List ByteArray) (d:NodeD):Bool:=decide (d.name=nm)&&yD ss d.subs
def zBY (fs:List NodeD) (nm:ByteArray) (ss:List ByteArray):List NodeD:=fs.filter fun d=>!inN nm ss d
theorem zCu {α:Type} [Inhabited α] (p:α→Bool):∀(l:List α) (k:Nat),k≤l.length→(∀j,j<k→p (l.getD j default)=true)→(k=l.length∨p (l.getD k default)=false)→(l.takeWhile p).length=k
 | [],k,h,_,_=>by simp at h;simp[h]
 | x::r,0,_,_,h2=>by
   rcases h2 with h2 | h2
   · simp at h2
   · simp only[List.getD_cons_zero]at h2;simp[h2]
 | x::r,k+1,h,h1,h2=>by have h0:=h1 0 (by omega);simp only[List.getD_cons_zero]at h0;have ih:=zCu p r k (by simpa using h) (fun j hj=>by simpa using h1 (j+1) (by omega)) (by simpa using h2);simp[h0,ih]
theorem zBk {α:Type} [Inhabited α] (p:α→Bool):∀(l:List α),(l.takeWhile p).length≤l.length∧(∀j,j<(l.takeWhile p).length→p (l.getD j default)=true)∧((l.takeWhile p).length<l.length→p (l.getD (l.takeWhile p).length default)=false)
 | []=>by simp
 | x::r=>by
   obtain⟨h1,h2,h3⟩:=zBk p r;by_cases h:p x=true
   · rw[List.takeWhile_cons,if_pos h];refine⟨by simpa using h1,fun j hj=>?_,fun hl=>?_⟩
     · match j with
       | 0=>simpa using h
       | j+1=>simpa using h2 j (by simpa using hj)
     · simpa using h3 (by simpa using hl)
   · rw[List.takeWhile_cons,if_neg h];refine⟨by simp,fun j hj=>absurd hj (by simp),fun _=>by simpa using h⟩
theorem zNO {fs:List NodeD} {nm:ByteArray} {ss:List ByteArray} {k:Nat} (hk:k≤fs.length) (h1:∀j,j<k→zAH nm ss (fs.getD j default)=true) (h2:k=fs.length∨zAH nm ss (fs.getD k default)=false):atN fs nm ss=k:=zCu _ _ _ hk h1 h2
theorem zJZ (fs:List NodeD) (nm:ByteArray) (ss:List ByteArray):atN fs nm ss≤fs.length:=(zBk _ fs).1
theorem tree_iff {l:List NodeD}:uA l=true↔l.length≤120∧(∀d∈l,zAx d=true)∧l.Pairwise fun a b=>wN a b=true:=by
 constructor
 · intro h;refine⟨?_,fun d hd=>?_,zEt h⟩
   · unfold uA at h;rw[Bool.and_eq_true]at h;exact of_decide_eq_true h.1
   · unfold uA at h;rw[Bool.and_eq_true]at h;obtain⟨i,hi,rfl⟩:=List.getElem_of_mem hd;have h2:=(zS0 (yM l) l.length 0).1 h.2 i (by omega) (by omega);unfold yM at h2;rw[Bool.and_eq_true,List.getD_eq_getElem?_getD,List.getElem?_eq_getElem hi]at h2;exact h2.1
 · rintro⟨h1,h2,h3⟩;unfold uA;rw[Bool.and_eq_true];refine⟨decide_eq_true h1,(zS0 (yM l) l.length 0).2 fun j _ hj=>?_⟩;have hj:j<l.length:=by omega
   unfold yM;rw[Bool.and_eq_true];refine⟨h2 _ (uB l j hj),?_⟩;by_cases h0:j=0
   · simp[h0]
   · rw[Bool.or_eq_true];refine .inr ?_;have:=List.pairwise_iff_getElem.1 h3 (j-1) j (by omega) hj (by omega);rw[List.getD_eq_getElem?_getD,List.getD_eq_getElem?_getD,List.getElem?_eq_getElem hj,List.getElem?_eq_getElem (show j-1<l.length by omega)];exact this
theorem zDV:∀(a b:List ByteArray),a≠b→yK a b=true∨yK b a=true
 | [],[],h=>absurd rfl h
 | [],_::_,_=>.inl rfl
 | _::_,[],_=>.inr rfl
 | x::r,y::s,h=>by
   unfold yK;by_cases e:x=y
   · subst e;rw[if_pos rfl,if_pos rfl];exact zDV r s (fun e=>h (by rw[e]))
   · rw[if_neg e,if_neg (fun e2=>e e2.symm)];exact zBB x y e
theorem zHW {n n':ByteArray} {s s':List ByteArray} (h:¬(n=n'∧s=s')):zAy n s n' s'=true∨zAy n' s' n s=true:=by
 unfold zAy;by_cases e:n=n'
 · subst e;rw[if_pos rfl,if_pos rfl];exact zDV s s' (fun e=>h ⟨rfl,e⟩)
 · rw[if_neg e,if_neg (fun e2=>e e2.symm)]
   cases h1:Op.bytesLess n.toList n'.toList with
   | true=>exact .inl rfl
   | false =>
     cases h2:Op.bytesLess n'.toList n.toList with
     | true=>exact .inr rfl
     | false=>exact absurd (uV (zFz _ _ h1 h2)) e
theorem zHF {a b:NodeD} (h:¬(a.name=b.name∧a.subs=b.subs)):wN a b=true∨wN b a=true:=by
 unfold wN;rw[zAa,zAa];exact zHW h
theorem zLf {fs:List NodeD} (h:uA fs=true) (nm:ByteArray) (ss:List ByteArray) (v:ByteArray) :
 (∀d∈fs.take (atN fs nm ss),wN d ⟨nm,ss,v⟩=true)∧(∀d∈fs.drop (if zBI fs nm ss=true then atN fs nm ss+1 else atN fs nm ss),wN ⟨nm,ss,v⟩ d=true):=by
 obtain⟨h1,h2,h3⟩:=zBk (zAH nm ss) fs;obtain⟨_,_,hp⟩:=tree_iff.1 h;refine⟨fun d hd=>?_,?_⟩
 · obtain⟨i,hi,rfl⟩:=List.mem_take_iff_getElem.1 hd;have hi2:i<fs.length:=by omega
   have h4:=h2 i (by unfold atN at hi;omega);rw[List.getD_eq_getElem?_getD,List.getElem?_eq_getElem hi2]at h4;exact h4
 · by_cases hh:zBI fs nm ss=true
   · rw[if_pos hh];intro d hd;unfold zBI zIx at hh;simp only[Bool.and_eq_true,decide_eq_true_eq]at hh;obtain⟨hl,e1,e2⟩:=hh;obtain⟨i,hi,rfl⟩:=List.mem_drop_iff_getElem.1 hd;have:=List.pairwise_iff_getElem.1 hp (atN fs nm ss) (atN fs nm ss+1+i) hl (by omega) (by omega);rw[List.getD_eq_getElem?_getD,List.getElem?_eq_getElem hl,Option.getD_some]at e1 e2;unfold wN at this ⊢;rw[e1,e2]at this;exact this
   · rw[if_neg hh];intro d hd;obtain⟨i,hi,rfl⟩:=List.mem_drop_iff_getElem.1 hd;have hl:atN fs nm ss<fs.length:=by omega
     have h4:=h3 (by unfold atN at hl;exact hl)
     have h5:wN ⟨nm,ss,v⟩ fs[atN fs nm ss]=true:=by
      have hne:¬(fs[atN fs nm ss].name=nm∧fs[atN fs nm ss].subs=ss):=fun ⟨e1,e2⟩=>hh (by
       unfold zBI zIx;rw[List.getD_eq_getElem?_getD,List.getElem?_eq_getElem hl,Option.getD_some,e1,e2]
       simp[hl])
      rcases zHF (a:=fs[atN fs nm ss]) (b:=⟨nm,ss,v⟩) hne with h6 | h6
      · exfalso;have h7:zAH nm ss (fs.getD (atN fs nm ss) default)=false:=h4;rw[List.getD_eq_getElem?_getD,List.getElem?_eq_getElem hl,Option.getD_some]at h7;have h8:wN fs[atN fs nm ss] ⟨nm,ss,v⟩=zAH nm ss fs[atN fs nm ss]:=rfl;rw[h8,h7]at h6;cases h6
      · exact h6
     by_cases h0:i=0
     · subst h0;simpa using h5
     · have:=List.pairwise_iff_getElem.1 hp (atN fs nm ss) (atN fs nm ss+i) hl (by omega) (by omega);exact zBP h5 this
theorem zHO {fs:List NodeD} {nm:ByteArray} {ss:List ByteArray} {v:ByteArray} (h:uA fs=true) (hp:zI0 nm ss=true) (hv:v.size≤64) (h0:(zDw fs nm ss v).1=0):uA (zDw fs nm ss v).2=true:=by
 unfold zDw at h0 ⊢;split at h0
 · cases h0
 · next hn =>
   rw[if_neg hn];obtain⟨h1,h2⟩:=zLf h nm ss v;obtain⟨g1,g2,g3⟩:=tree_iff.1 h;have hle:=zJZ fs nm ss;refine tree_iff.2 ⟨?_,fun d hd=>?_,?_⟩
   · unfold zFN;rw[List.length_append,List.length_cons,List.length_take,List.length_drop];by_cases hh:zBI fs nm ss=true
     · rw[if_pos hh];have:atN fs nm ss<fs.length:=by unfold zBI at hh;rw[Bool.and_eq_true]at hh;exact of_decide_eq_true hh.1
       omega
     · rw[if_neg hh];have h3:¬120≤fs.length:=fun h3=>hn (by simp[hh,h3]);omega
   · unfold zFN at hd;rcases List.mem_append.1 hd with h3 | h3
     · exact g2 d (List.mem_of_mem_take h3)
     · rcases List.mem_cons.1 h3 with h4 | h4
       · subst h4;unfold zAx;rw[hp,decide_eq_true hv];rfl
       · exact g2 d (List.mem_of_mem_drop h4)
   · unfold zFN;rw[List.pairwise_append,List.pairwise_cons];refine⟨g3.sublist (List.take_sublist _ _),⟨h2,g3.sublist (List.drop_sublist _ _)⟩,fun a ha b hb=>?_⟩;rcases List.mem_cons.1 hb with h4 | h4
     · subst h4;exact h1 a ha
     · exact zBP (h1 a ha) (h2 b h4)
theorem zGt {fs:List NodeD} (nm:ByteArray) (ss:List ByteArray) (h:uA fs=true):uA (zBY fs nm ss)=true:=by
 obtain⟨g1,g2,g3⟩:=tree_iff.1 h;exact tree_iff.2 ⟨Nat.le_trans (List.length_filter_le _ _) g1,fun d hd=>g2 d (List.mem_filter.1 hd).1,g3.filter _⟩
theorem zEA:uA []=true:=tree_iff.2 ⟨by simp,fun d hd=>by simp at hd,List.Pairwise.nil⟩
theorem wQ {fs:List NodeD} (h:uA fs=true):vC fs:=by
 obtain⟨g1,g2,_⟩:=tree_iff.1 h;refine⟨by omega,fun d hd=>?_⟩;have h2:=g2 d hd;unfold zAx zI0 xB wT at h2;simp only[Bool.and_eq_true,decide_eq_true_eq,List.all_eq_true]at h2;obtain⟨⟨⟨a1,_⟩,b1,b2⟩,c1⟩:=h2;refine⟨by omega,⟨by omega,fun s hs=>?_⟩,by omega⟩;have:=b2 s hs;unfold zAc at this;simp only[Bool.and_eq_true,decide_eq_true_eq]at this;omega
structure ChgD where
 kind:Int
 name:ByteArray
 subs:List ByteArray
 val:ByteArray
deriving Inhabited
def vS (c:ChgD):Bool:=zI0 c.name c.subs&&((decide (c.kind=1)&&decide (c.val.size≤64))||(decide (c.kind=2)&&decide (c.val=⟨#[]⟩)))
def doB (fs:List NodeD) (c:ChgD):Int × List NodeD:=if c.kind=1 then zDw fs c.name c.subs c.val else (0,zBY fs c.name c.subs)
def zV0 (fs:List NodeD) (c:ChgD):Int × List NodeD:=if (uA fs&&vS c)=true then doB fs c else (1,[])
def zAT:List NodeD→List ChgD→Int × List NodeD
 | fs,[]=>(0,fs)
 | fs,c::r=>if (zV0 fs c).1=0 then zAT (zV0 fs c).2 r else ((zV0 fs c).1,[])
def xM (fs:List NodeD) (cs:List ChgD):Int × List NodeD:=if uA fs=true then (if 120<cs.length then (4,[]) else zAT fs cs) else (1,[])
theorem zFk {fs:List NodeD} {c:ChgD} (h0:(zV0 fs c).1=0):uA (zV0 fs c).2=true:=by
 unfold zV0 at h0 ⊢;split at h0;case isFalse=>cases h0
 case isTrue h =>
  rw[if_pos h];rw[Bool.and_eq_true]at h;obtain⟨h1,h2⟩:=h;unfold vS at h2;rw[Bool.and_eq_true]at h2;unfold doB at h0 ⊢;split at h0
  · next hk=>rw[if_pos hk];refine zHO h1 h2.1 ?_ h0;have:=h2.2;rw[hk]at this;simpa using this
  · next hk=>rw[if_neg hk];exact zGt _ _ h1
theorem zFm:∀(cs:List ChgD) (fs:List NodeD),uA fs=true→(zAT fs cs).1=0→uA (zAT fs cs).2=true
 | [],fs,h,_=>h
 | c::r,fs,h,h0=>by
   unfold zAT at h0 ⊢;split at h0
   · next h1=>rw[if_pos h1];exact zFm r _ (zFk h1) h0
   · next h1=>exact absurd h0 h1
theorem zFl {fs:List NodeD} {cs:List ChgD} (h0:(xM fs cs).1=0):uA (xM fs cs).2=true:=by
 unfold xM at h0 ⊢;split at h0
 · next h =>
   rw[if_pos h];split at h0
   · cases h0
   · next h1=>rw[if_neg h1];exact zFm cs fs h h0
 · cases h0
end Go.Proofs.YtfpcjhajjejpdaaGreatDoor
namespace Go.Proofs.YtfpcjhajjejpdaaGreatDoor
open Go.RowKit
set_option linter.unusedVariables false
def ChgR (w:World) (B:Nat) (c0 c1 c2 c3:Value) (d:ChgD):Prop :=
 c0=.int .i64 d.kind∧c1=.string d.name∧(∃A n cap,c2=.slice A n cap∧Strs w B A n d.subs∧n≤cap)∧c3=.string d.val
theorem ChgR.keep {w w':World} {B:Nat} {c0 c1 c2 c3:Value} {d:ChgD} (h:ChgR w B c0 c1 c2 c3 d) (hk:∀p:Addr,p.block<B→w'.cell? p=w.cell? p):ChgR w' B c0 c1 c2 c3 d:=by
 obtain⟨e0,e1,⟨A1,n1,p1,e2,s1,k1⟩,e3⟩:=h;exact⟨e0,e1,⟨A1,n1,p1,e2,s1.keep hk,k1⟩,e3⟩
theorem ChgR.more {w:World} {B B':Nat} {c0 c1 c2 c3:Value} {d:ChgD} (h:ChgR w B c0 c1 c2 c3 d) (hB:B≤B'):ChgR w B' c0 c1 c2 c3 d:=by
 obtain⟨e0,e1,⟨A1,n1,p1,e2,s1,k1⟩,e3⟩:=h;exact⟨e0,e1,⟨A1,n1,p1,e2,s1.more hB,k1⟩,e3⟩
theorem ChgR.later {w w':World} {c0 c1 c2 c3:Value} {d:ChgD} (h:ChgR w w.heap.size c0 c1 c2 c3 d) (hb:Below w.heap.size w w'):ChgR w' w'.heap.size c0 c1 c2 c3 d :=
 (h.keep fun _ hp=>hb.cell hp).more hb.size
def Chgs (w:World) (B:Nat) (A:Option Addr) (n:Nat) (fs:List ChgD):Prop :=
 fs.length=n∧(0<n→∃b o,A=some ⟨b,o,none⟩∧b<B∧∀j,j<n→∃c0 c1 c2 c3,w.cell? ⟨b,o+j*4,none⟩=some c0∧w.cell? ⟨b,o+j*4+1,none⟩=some c1∧w.cell? ⟨b,o+j*4+2,none⟩=some c2∧w.cell? ⟨b,o+j*4+3,none⟩=some c3∧ChgR w B c0 c1 c2 c3 (fs.getD j default))
section
variable {w w':World} {B B' n:Nat} {A:Option Addr} {fs:List ChgD}
theorem Chgs.keep (h:Chgs w B A n fs) (hk:∀p:Addr,p.block<B→w'.cell? p=w.cell? p):Chgs w' B A n fs :=
 ⟨h.1,fun hn=>by
   obtain⟨b,o,e,hb,hc⟩:=h.2 hn;refine⟨b,o,e,hb,fun j hj=>?_⟩;obtain⟨c0,c1,c2,c3,h0,h1,h2,h3,hr⟩:=hc j hj
   exact⟨c0,c1,c2,c3,(hk _ hb).trans h0,(hk _ hb).trans h1,(hk _ hb).trans h2,(hk _ hb).trans h3,hr.keep hk⟩⟩
theorem Chgs.more (h:Chgs w B A n fs) (hB:B≤B'):Chgs w B' A n fs :=
 ⟨h.1,fun hn=>by
   obtain⟨b,o,e,hb,hc⟩:=h.2 hn;refine⟨b,o,e,by omega,fun j hj=>?_⟩;obtain⟨c0,c1,c2,c3,h0,h1,h2,h3,hr⟩:=hc j hj
   exact⟨c0,c1,c2,c3,h0,h1,h2,h3,hr.more hB⟩⟩
theorem Chgs.later (h:Chgs w w.heap.size A n fs) (hb:Below w.heap.size w w'):Chgs w' w'.heap.size A n fs:=(h.keep fun _ hp=>hb.cell hp).more hb.size
end
def ChgD.small (d:ChgD):Prop:=d.name.size≤1048576∧(d.subs.length≤1048576∧∀s∈d.subs,s.size≤1048576)∧d.val.size≤1048576
def NodesO (w:World) (base:Nat) (v:Value) (fs:List NodeD):Prop:=∃vs,Own.OwnL zHR w base 83 v fs vs
def zDh:Own.Kind ChgD:=⟨4,fun d v=>[.int .i64 d.kind,.string d.name,v,.string d.val],fun d=>d.subs,fun _ _=>rfl,by decide⟩
def ChgsO (w:World) (base:Nat) (v:Value) (fs:List ChgD):Prop:=∃vs,Own.OwnL zDh w base 88 v fs vs
theorem zMp:(Tryz.prog.info? 88).map (fun i=>(i.zero,i.size,i.bytes))=some (some (.agg #[.int .i64 0,.string .empty,.slice none 0 0,.string .empty]),4,64):=by kernel_rfl
theorem NodesO.later {w w':World} {base:Nat} {v:Value} {fs:List NodeD} (h:NodesO w base v fs) (hb:Below w.heap.size w w'):NodesO w' base v fs:=by
 obtain⟨vs,h1⟩:=h;exact⟨vs,h1.later hb⟩
theorem ChgsO.later {w w':World} {base:Nat} {v:Value} {fs:List ChgD} (h:ChgsO w base v fs) (hb:Below w.heap.size w w'):ChgsO w' base v fs:=by
 obtain⟨vs,h1⟩:=h;exact⟨vs,h1.later hb⟩
theorem NodesO.base {w:World} {base base':Nat} {v:Value} {fs:List NodeD} (h:NodesO w base' v fs) (hb:base≤base'):NodesO w base v fs:=by
 obtain⟨vs,h1⟩:=h;exact⟨vs,h1.base hb⟩
theorem ChgsO.base {w:World} {base base':Nat} {v:Value} {fs:List ChgD} (h:ChgsO w base' v fs) (hb:base≤base'):ChgsO w base v fs:=by
 obtain⟨vs,h1⟩:=h;exact⟨vs,h1.base hb⟩
theorem NodesO.reads {w:World} {base:Nat} {v:Value} {fs:List NodeD} (h:NodesO w base v fs):∃A cap,v=.slice A fs.length cap∧fs.length≤cap∧Nodes w w.heap.size A fs.length fs:=by
 obtain⟨vs,h1⟩:=h;exact OwnL.Nodes h1
theorem ChgsO.reads {w:World} {base:Nat} {v:Value} {fs:List ChgD} (h:ChgsO w base v fs):∃A cap,v=.slice A fs.length cap∧fs.length≤cap∧Chgs w w.heap.size A fs.length fs:=by
 obtain⟨vs,h⟩:=h;obtain⟨A,cap,rfl,hc,_,hA⟩:=Own.own_slice h.row;refine⟨A,cap,rfl,hc,rfl,fun hn=>?_⟩;obtain⟨g,rfl,hg,_⟩:=hA hn;refine⟨g,0,rfl,hg,fun j hj=>?_⟩;have h0:=h.cellAt rfl j 0 hj (by decide);have h1:=h.cellAt rfl j 1 hj (by decide);have h2:=h.cellAt rfl j 2 hj (by decide);have h3:=h.cellAt rfl j 3 hj (by decide);obtain⟨A1,cap1,e1,hc1,hs1⟩:=(h.subs j hj).strs;refine⟨_,_,_,_,by rw[Nat.zero_add];exact h0,by rw[Nat.zero_add];exact h1,by rw[Nat.zero_add];exact h2,by rw[Nat.zero_add];exact h3,rfl,rfl,⟨A1,_,cap1,e1,hs1,hc1⟩,rfl⟩
theorem zJz (w:World) (base:Nat) (h:base≤w.heap.size):NodesO (w.alloc (.cells #[] 83)) base (.slice (some ⟨w.heap.size,0,none⟩) 0 0) [] :=
 ⟨[],rfl,World.ownsRow_lit (e:=83) (size:=3) w #[] 0 h (by omega) rfl,fun j hj=>by simp at hj,List.Pairwise.nil⟩
theorem wK (w:World) (base:Nat):NodesO w base (.slice none 0 0) []:=⟨[],Own.OwnL.nil _ _ _⟩
theorem zAu (w:World) (base:Nat) (h:base≤w.heap.size):ChgsO (w.alloc (.cells #[] 88)) base (.slice (some ⟨w.heap.size,0,none⟩) 0 0) [] :=
 ⟨[],rfl,World.ownsRow_lit (e:=88) (size:=4) w #[] 0 h (by omega) rfl,fun j hj=>by simp at hj,List.Pairwise.nil⟩
def zLP (fs:List NodeD) (w:World) (e:Ending) (w':World):Prop:=∃v,e=.returned v∧NodesO w' w.heap.size v fs∧Below w.heap.size w w'
theorem CellsG.append {α:Type} {sz:Nat} {R:List Value→α→Prop}:∀{fs gs:List α} {cs ds:List Value},CellsG sz R fs cs→CellsG sz R gs ds→CellsG sz R (fs++gs) (cs++ds)
 | [],gs,cs,ds,h,h'=>by have h:cs=[]:=h;subst h;exact h'
 | f::r,gs,cs,ds,h,h'=>by obtain⟨c,cs',rfl,hl,hd,hr⟩:=h;exact⟨c,cs'++ds,by rw[List.append_assoc],hl,hd,CellsG.append hr h'⟩
theorem CellsG.drop {α:Type} {sz:Nat} {R:List Value→α→Prop}:∀{fs:List α} {cs:List Value} (k:Nat),CellsG sz R fs cs→CellsG sz R (fs.drop k) (cs.drop (k*sz))
 | [],cs,k,h=>by have h:cs=[]:=h;subst h;simp[CellsG]
 | d::r,cs,0,h=>by simpa using h
 | d::r,cs,k+1,h=>by obtain⟨c,cs',rfl,hl,hd,hr⟩:=h;rw[show(k+1)*sz=c.length+k*sz by rw[hl,Nat.add_mul];omega,List.drop_length_add_append,List.drop_succ_cons];exact CellsG.drop k hr
def zAJ (r:Int × List NodeD) (w:World) (e:Ending) (w':World):Prop:=∃v,e=.returned (.tuple #[.agg #[v],.int .i64 r.1])∧NodesO w' w.heap.size v r.2∧Below w.heap.size w w'
def zMF (r:Int × List ChgD) (w:World) (e:Ending) (w':World):Prop:=∃v,e=.returned (.tuple #[v,.int .i64 r.1])∧ChgsO w' w.heap.size v r.2∧Below w.heap.size w w'
def zIO (fs:List NodeD) (w:World) (e:Ending) (w':World):Prop:=∃v,e=.returned (.agg #[v])∧NodesO w' w.heap.size v fs∧Below w.heap.size w w'
def zFJ (cs:List ChgD) (w:World) (e:Ending) (w':World):Prop:=∃v,e=.returned v∧ChgsO w' w.heap.size v cs∧Below w.heap.size w w'
end Go.Proofs.YtfpcjhajjejpdaaGreatDoor
namespace Go.Proofs.YtfpcjhajjejpdaaGreatDoor
open Go.RowKit Go.Proofs.YtfpcjhajjejpdaaGreatDoor.Own
theorem Blk.at {w:World} {g:Nat} {t:TypeId} {cs:Array Value} (h:Blk w g t cs) (i:Nat) {v:Value} (hv:cs[i]?=some v):w.cell? ⟨g,i,none⟩=some v:=(h.cell i).trans hv
end Go.Proofs.YtfpcjhajjejpdaaGreatDoor
namespace Go.Proofs.YtfpcjhajjejpdaaGreatDoor
open Go.RowKit
def xX (c:UInt8):List UInt8→List (List UInt8)
 | []=>[[]]
 | b::l=>if b=c then []::xX c l else match xX c l with
   | []=>[[b]]
   | h::t=>(b::h)::t
theorem zHi (c:UInt8):∀l,xX c l≠[]
 | []=>by simp[xX]
 | b::l=>by
   unfold xX;split
   · simp
   · split <;> simp
theorem zGE (c:UInt8):∀(a:List UInt8),c ∉ a→xX c a=[a]
 | [],_=>rfl
 | b::l,h=>by have ih:=zGE c l (fun e=>h (List.mem_cons_of_mem _ e));unfold xX;rw[if_neg (fun e=>h (by rw[e];exact List.mem_cons_self)),ih]
theorem zGD (c:UInt8):∀(a b:List UInt8),c ∉ a→xX c (a++c::b)=a::xX c b
 | [],b,_=>by simp[xX]
 | x::a,b,h=>by
   have ih:=zGD c a b (fun e=>h (List.mem_cons_of_mem _ e));rw[List.cons_append]
   conv=>lhs;unfold xX
   rw[if_neg (fun e=>h (by rw[e];exact List.mem_cons_self)),ih]
theorem zGf (c:UInt8):∀l,Lib.split l [c]=xX c l
 | []=>by simp[Lib.split,Lib.count_miss (s:=[]) (sub:=[c]) (by simp[Lib.index]),Lib.splitK,xX]
 | b::l=>by
   have ih:=zGf c l;unfold Lib.split at ih ⊢;by_cases hb:b=c
   · subst hb;rw[Lib.count_cons_eq,Nat.add_comm,Lib.splitK];have hix:Lib.index (b::l) [b]=0:=by rw[Lib.index];simp[List.isPrefixOf]
     rw[hix];simp only[show((0:Int)==-1)=false from rfl,Bool.false_eq_true,if_false];unfold xX;rw[if_pos rfl,←ih];simp
   · rw[Lib.count_cons_ne b c l hb];have hp:([c]:List UInt8).isPrefixOf (b::l)=false:=by simp[List.isPrefixOf,Ne.symm hb]
     have hix:Lib.index (b::l) [c]=if Lib.index l [c]==-1 then -1 else Lib.index l [c]+1:=by rw[Lib.index,hp];simp
     unfold xX;rw[if_neg hb];by_cases hm:Lib.index l [c]=-1
     · rw[Lib.count_miss hm]at ih ⊢;rw[Lib.splitK]at ih ⊢;rw[←ih]
     · have hge:=Lib.index_ge l [c];obtain⟨j,hj⟩:∃j:Nat,Lib.index l [c]=j:=⟨(Lib.index l [c]).toNat,by omega⟩;rw[Lib.count_hit (by simp) hj,Nat.add_comm]at ih ⊢;rw[Lib.splitK]at ih ⊢;rw[hix,hj];rw[hj]at ih;have h1:((j:Int)==-1)=false:=by rw[beq_eq_false_iff_ne];omega
       have h2:((j:Int)+1==-1)=false:=by rw[beq_eq_false_iff_ne];omega
       simp only[h1,h2,Bool.false_eq_true,if_false]at ih ⊢;rw[←ih];have h3:((j:Int)+1).toNat=j+1:=by omega
       simp[h3]
theorem vU (x y:List UInt8) (r:List (List UInt8)) (s:List UInt8):Lib.join (x::y::r) s=x++s++Lib.join (y::r) s:=by
 simp[Lib.join,List.intercalate]
theorem zBd (x s:List UInt8):Lib.join [x] s=x:=by simp[Lib.join,List.intercalate]
theorem zIq (c:UInt8):∀l,Lib.join (xX c l) [c]=l
 | []=>by simp[xX,zBd]
 | b::l=>by
   have ih:=zIq c l;unfold xX;by_cases hb:b=c
   · subst hb;rw[if_pos rfl]
     match h:xX b l,ih with
     | [],_=>exact absurd h (zHi b l)
     | x::r,ih=>rw[vU,ih];rfl
   · rw[if_neg hb]
     match h:xX c l,ih with
     | [],_=>exact absurd h (zHi c l)
     | [x],ih=>rw[zBd]at ih;simp only[zBd];rw[ih]
     | x::y::r,ih=>rw[vU]at ih;simp only[vU];rw[←ih];simp
def zAE (c:UInt8) (s:ByteArray):List ByteArray:=(xX c s.data.toList).map fun l=>⟨l.toArray⟩
theorem zNH {l:List ByteArray} {k:List (List UInt8)} (h:l.map (·.data.toList)=k):l=k.map fun x=>⟨x.toArray⟩:=by
 subst h;rw[List.map_map]
 have:((fun x:List UInt8=>(⟨x.toArray⟩:ByteArray)) ∘ fun x:ByteArray=>x.data.toList)=id:=by
  funext x
  cases x;rfl
 rw[this,List.map_id]
theorem zEC (c:UInt8) (s:ByteArray):Lib.splitB ⟨#[c]⟩ 0 (Lib.countB s ⟨#[c]⟩) s=zAE c s:=by
 apply zNH;rw[Lib.splitB_data];exact zGf c s.data.toList
theorem zLv (c:UInt8) (s:ByteArray):Lib.join ((zAE c s).map (·.data.toList)) [c]=s.data.toList:=by
 unfold zAE;rw[List.map_map]
 have:((fun x:ByteArray=>x.data.toList) ∘ fun l:List UInt8=>(⟨l.toArray⟩:ByteArray))=id:=by
  funext x
  rfl
 rw[this,List.map_id,zIq]
theorem zID (c:UInt8):∀l,(xX c l).length≤l.length+1
 | []=>by simp[xX]
 | b::l=>by
   have ih:=zID c l;unfold xX;split
   · simpa using ih
   · split
     · simp
     · rename_i h t e;rw[e]at ih;simp at ih ⊢;omega
theorem zFo (c:UInt8):∀l,∀x∈xX c l,x.length≤l.length
 | [],x,hx=>by simp[xX]at hx;subst hx;simp
 | b::l,x,hx=>by
   have ih:=zFo c l;unfold xX at hx;split at hx
   · simp only[List.mem_cons]at hx;rcases hx with rfl | hx
     · simp
     · have:=ih x hx;simp;omega
   · split at hx
     · simp at hx;subst hx;simp
     · rename_i h t e;rw[e]at ih;simp only[List.mem_cons]at hx;rcases hx with rfl | hx
       · have:=ih h (by simp);simpa using this
       · have:=ih x (by simp[hx]);simp;omega
end Go.Proofs.YtfpcjhajjejpdaaGreatDoor
namespace Go.Proofs.YtfpcjhajjejpdaaGreatDoor
open Go.RowKit
theorem zGC (s:ByteArray) (f k:Nat):s.extract f k=⟨((s.data.toList.drop f).take (k-f)).toArray⟩:=by
 have h:(s.extract f k).data.toList=(s.data.toList.drop f).take (k-f):=by rw[ByteArray.data_extract,Array.toList_extract,List.extract_eq_take_drop]
 apply uV;rw[wE,h,wE]
structure CutI (c:UInt8) (l:List UInt8) (k f:Nat) (done:List ByteArray):Prop where
 fk:f≤k
 kl:k≤l.length
 eq:(xX c l).map (fun x=>(⟨x.toArray⟩:ByteArray))=done++(xX c (l.drop f)).map (fun x=>⟨x.toArray⟩)
 free:c ∉ (l.drop f).take (k-f)
theorem CutI.start (c:UInt8) (l:List UInt8):CutI c l 0 0 []:=⟨Nat.le_refl _,Nat.zero_le _,by simp,by simp⟩
theorem CutI.skip {c:UInt8} {l:List UInt8} {k f:Nat} {done:List ByteArray} (h:CutI c l k f done) (hk:k<l.length) (hc:l[k]≠c):CutI c l (k+1) f done:=by
 have h1:=h.fk;refine⟨by omega,by omega,h.eq,?_⟩;rw[show k+1-f=(k-f)+1 by omega,List.take_succ_eq_append_getElem (by rw[List.length_drop];omega)];rw[List.mem_append,List.mem_singleton];rintro(h2 | h2)
 · exact h.free h2
 · apply hc;rw[List.getElem_drop]at h2;rw[h2]
   congr 1
   omega
theorem CutI.hit {l:List UInt8} {s:ByteArray} {k f:Nat} {done:List ByteArray} {c:UInt8} (hs:s.data.toList=l) (h:CutI c l k f done) (hk:k<l.length) (hc:l[k]=c):CutI c l (k+1) (k+1) (done++[s.extract f k]):=by
 have h1:=h.fk;refine⟨Nat.le_refl _,by omega,?_,by simp⟩;have hd:l.drop f=(l.drop f).take (k-f)++c::l.drop (k+1):=by have:=List.take_append_drop (k-f) (l.drop f);rw[List.drop_drop,show f+(k-f)=k by omega,List.drop_eq_getElem_cons hk,hc]at this;exact this.symm
 rw[h.eq,hd,zGD _ _ _ h.free,List.map_cons,List.append_assoc,List.singleton_append,zGC,hs]
theorem CutI.last {l:List UInt8} {s:ByteArray} {f:Nat} {done:List ByteArray} {c:UInt8} (hs:s.data.toList=l) (h:CutI c l l.length f done):zAE c s=done++[s.extract f l.length]:=by
 have h1:=h.fk;unfold zAE;rw[hs,h.eq];have hf:=h.free;rw[List.take_of_length_le (by rw[List.length_drop];omega)]at hf;rw[zGE _ _ hf,zGC,hs,List.take_of_length_le (by rw[List.length_drop];omega)];rfl
set_option maxRecDepth 100000 in
set_option maxHeartbeats 2000000 in
theorem zJI (s:ByteArray) (w:World) (hs:s.size≤1048576) :
 Calls Tryz.prog 174 #[.string s] w fun e w'=>∃v,e=.returned v∧Own.SubO w' w.heap.size v (zAE 94 s)∧Below w.heap.size w w':=by
 obtain⟨i0,hi,hz0,hz1,hz2⟩:=info_parts zAO;have hsz:s.data.toList.length=s.size:=(Lib.size_eq s).symm;have HSZ:=Lib.hid hsz;clear hsz;go_enter Tryz.func174,Tryz.ntmps174;go_wp2_with fail;go_loopw [3,4,5] (fun v f i wr=>∃(k fr:Nat) (done:List ByteArray),i=.int .i64 k∧f=.int .i64 fr∧fr≤k∧k≤s.size+1∧done.length≤k∧wr.ownsRow w.heap.size 9 1 v done.length (done.map Value.string)∧Below w.heap.size w wr∧Hid ((k≤s.size∧CutI 94 s.data.toList k fr done)∨(k=s.size+1∧zAE 94 s=done))) (fun _ _ i _=>s.size+1-(intOf i).toNat);case atStart=>refine⟨0,0,[],rfl,rfl,Nat.le_refl _,Nat.zero_le _,Nat.le_refl _,?_,Below.new _ _,.inl ⟨Nat.zero_le _,CutI.start _ _⟩⟩;simpa using World.ownsRow_lit (e:=9) (size:=1) w #[] 0 (Nat.le_refl _) (by omega) rfl
 case round =>
  obtain⟨k,f,done,rfl,rfl,hfk,hk,hdl,hown,hb,hI⟩:=hrel;have HO:=Lib.hid hown;have HB:=Lib.hid hb;clear hown hb;have hrow:Hid (∀o,(wr.alloc o).ownsRow w.heap.size 9 1 u3 done.length (done.map Value.string)):=fun o=>Own.own_later HO.out (Below.new _ _);have hbz:=HB.out.size;by_cases hle:k≤s.size
  · have HC:Hid (CutI 94 s.data.toList k f done):=by
     rcases hI.out with h | h
     · exact h.2
     · exact absurd h.1 (by omega)
    clear hI;by_cases hlt:k<s.size
    · have hkl:k<s.data.toList.length:=by rw[HSZ.out];exact hlt
      have HG:Hid (s.data.toList[k]=s[k]):=rfl;by_cases h3:s[k].toNat=94
      · have HN:Hid (CutI 94 s.data.toList (k+1) (k+1) (done++[s.extract f k])):=HC.out.hit rfl hkl (by rw[HG.out];exact UInt8.toNat_inj.1 h3);have hb3:((s[k].toNat:Int)==94)=true:=by rw[beq_iff_eq];omega
        have hb4:(s[k].toNat==94)=true:=by rw[beq_iff_eq];omega
        have hne:((k:Int)==(s.size:Int))=false:=by rw[beq_eq_false_iff_ne];omega
        have hne2:(k==s.size)=false:=by rw[beq_eq_false_iff_ne];omega
        clear h3;go_wp2_with (at_builtin;refine wpList_append_own _ rfl (.tmp 23) (.tmp 28) 27 rfl w.heap.size 9 i0 _ 1 16 Tryz.underlying27 hi hz0 hz1 hz2 rfl (by decide) _ done.length _ rfl (hrow.out _) ⟨_,0,none⟩ 1 1 [.string (s.extract f k)] rfl rfl ?c1 ?c2 ?c3 ?c4 ?c5 ?_);all_goals try (first | exact wC _ #[.string (s.extract f k)] _ _ (by simp) | (simp[Value.oneCell'];done) | (unfold maxLen;omega) | omega | (simp;omega))
        intro v1 w2 hown1 hg1 _;have HO3:Hid (w2.ownsRow w.heap.size 9 1 v1 (done++[s.extract f k]).length ((done++[s.extract f k]).map Value.string)):=by unfold Hid;rw[List.length_append,List.length_singleton,List.map_append];exact hown1
        have HB3:=Lib.hid (xN (HB.out.later (Below.new wr _)) (hrow.out _) (Nat.le_refl _) hg1);clear hown1 hg1;go_wp2_with fail;go_roundw;case rel=>exact⟨k+1,k+1,_,by go_num,by go_num,by omega,by omega,(by first | (simp;done) | (simp;omega)),HO3.out,HB3.out,.inl ⟨by omega,HN.out⟩⟩
        case measure=>simp[intOf];omega
      · have HN:Hid (CutI 94 s.data.toList (k+1) f done):=HC.out.skip hkl (by rw[HG.out];intro e;exact h3 (by rw[e];rfl));have hb3:((s[k].toNat:Int)==94)=false:=by rw[beq_eq_false_iff_ne];omega
        have hb4:(s[k].toNat==94)=false:=by rw[beq_eq_false_iff_ne];omega
        have hne:((k:Int)==(s.size:Int))=false:=by rw[beq_eq_false_iff_ne];omega
        have hne2:(k==s.size)=false:=by rw[beq_eq_false_iff_ne];omega
        clear h3;go_wp2_with fail;go_roundw;case rel=>exact⟨k+1,f,done,by go_num,rfl,by omega,by omega,by omega,HO.out,HB.out,.inl ⟨by omega,HN.out⟩⟩
        case measure=>simp[intOf];omega
    · obtain rfl:k=s.size:=by omega
      have HN:Hid (zAE 94 s=done++[s.extract f s.size]):=by
       have h:=HC.out;have e:=HSZ.out;have h2:CutI 94 s.data.toList s.data.toList.length f done:=by rw[e];exact h
       have h3:=h2.last rfl;rw[e]at h3;exact h3
      go_wp2_with (at_builtin;refine wpList_append_own _ rfl (.tmp 23) (.tmp 28) 27 rfl w.heap.size 9 i0 _ 1 16 Tryz.underlying27 hi hz0 hz1 hz2 rfl (by decide) _ done.length _ rfl (hrow.out _) ⟨_,0,none⟩ 1 1 [.string (s.extract f s.size)] rfl rfl ?d1 ?d2 ?d3 ?d4 ?d5 ?_);all_goals try (first | exact wC _ #[.string (s.extract f s.size)] _ _ (by simp) | (simp[Value.oneCell'];done) | (unfold maxLen;omega) | omega | (simp;omega))
      intro v1 w2 hown1 hg1 _;have HO3:Hid (w2.ownsRow w.heap.size 9 1 v1 (done++[s.extract f s.size]).length ((done++[s.extract f s.size]).map Value.string)):=by unfold Hid;rw[List.length_append,List.length_singleton,List.map_append];exact hown1
      have HB3:=Lib.hid (xN (HB.out.later (Below.new wr _)) (hrow.out _) (Nat.le_refl _) hg1);clear hown1 hg1;go_wp2_with fail;go_roundw;case rel=>exact⟨s.size+1,s.size+1,_,by go_num,by go_num,by omega,by omega,(by first | (simp;done) | (simp;omega)),HO3.out,HB3.out,.inr ⟨rfl,HN.out⟩⟩
      case measure=>first | (simp[intOf];done) | (simp[intOf];omega)
  · have HE:Hid (zAE 94 s=done):=by
     rcases hI.out with h | h
     · exact absurd h.1 hle
     · exact h.2
    go_wp2_with fail;go_ret;refine⟨_,rfl,?_,HB.out⟩;rw[HE.out];exact HO.out
end Go.Proofs.YtfpcjhajjejpdaaGreatDoor
