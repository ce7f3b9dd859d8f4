import Derived.Test.YtgmaamnofhmecaaGreatDoorY12
import Derived.Test.YtgmaamnofhmecaaGreatDoorY09
import Derived.Laws.CopyOwn
import Derived.Laws.CopyRow
import Derived.Lib.SliceRun
set_option linter.unusedSimpArgs false
namespace Go.Proofs.YtgmaamnofhmecaaGreatDoor
open Go.RowKit
theorem zJV (g o j:Nat):(⟨g,o,none⟩:Addr).add j=⟨g,o+j,none⟩:=by
 unfold Addr.add;split
 · rename_i h0;subst h0;rfl
 · rfl
def CellsG {α:Type} (sz:Nat) (R:List Value→α→Prop):List α→List Value→Prop
 | [],cs=>cs=[]
 | d::r,cs=>∃c cs',cs=c++cs'∧c.length=sz∧R c d∧CellsG sz R r cs'
section
variable {α:Type} {sz:Nat} {R R':List Value→α→Prop}
theorem CellsG.len:∀{fs:List α} {cs:List Value},CellsG sz R fs cs→cs.length=fs.length*sz
 | [],cs,h=>by have h:cs=[]:=h;subst h;simp
 | d::r,cs,h=>by obtain⟨c,cs',rfl,hl,_,hr⟩:=h;have:=hr.len;simp only[List.length_append,List.length_cons,this,hl,Nat.add_mul];omega
theorem CellsG.mono (hR:∀c d,R c d→R' c d):∀{fs:List α} {cs:List Value},CellsG sz R fs cs→CellsG sz R' fs cs
 | [],_,h=>h
 | _::_,_,h=>by obtain⟨c,cs',rfl,hl,hd,hr⟩:=h;exact⟨c,cs',rfl,hl,hR _ _ hd,CellsG.mono hR hr⟩
theorem CellsG.all {Q:Value→Prop} (hR:∀c d,R c d→∀u∈c,Q u):∀{fs:List α} {cs:List Value},CellsG sz R fs cs→∀u∈cs,Q u
 | [],cs,h,u,hu=>by have h:cs=[]:=h;subst h;simp at hu
 | _::_,_,h,u,hu=>by
   obtain⟨c,cs',rfl,hl,hd,hr⟩:=h;rw[List.mem_append]at hu;rcases hu with hu | hu
   · exact hR _ _ hd u hu
   · exact CellsG.all hR hr u hu
theorem CellsG.take:∀{fs:List α} {cs:List Value} (k:Nat),CellsG sz R fs cs→CellsG sz R (fs.take k) (cs.take (k*sz))
 | [],cs,k,h=>by have h:cs=[]:=h;subst h;simp[CellsG]
 | d::r,cs,0,h=>by simp[CellsG]
 | d::r,cs,k+1,h=>by obtain⟨c,cs',rfl,hl,hd,hr⟩:=h;refine⟨c,cs'.take (k*sz),?_,hl,hd,CellsG.take k hr⟩;rw[show(k+1)*sz=c.length+k*sz by rw[hl,Nat.add_mul];omega,List.take_length_add_append]
theorem CellsG.snoc {d:α} {c:List Value} (hd:R c d) (hl:c.length=sz):∀{fs:List α} {cs:List Value},CellsG sz R fs cs→CellsG sz R (fs++[d]) (cs++c)
 | [],cs,h=>by have h:cs=[]:=h;subst h;exact⟨c,[],by simp,hl,hd,rfl⟩
 | f::r,cs,h=>by obtain⟨c',cs',rfl,hl',hd',hr⟩:=h;exact⟨c',cs'++c,by simp,hl',hd',CellsG.snoc hd hl hr⟩
theorem CellsG.at [Inhabited α]:∀{fs:List α} {cs:List Value} (j:Nat),CellsG sz R fs cs→j<fs.length→∃c,c.length=sz∧R c (fs.getD j default)∧∀t,t<sz→cs[j*sz+t]?=c[t]?
 | [],_,j,_,hj=>by simp at hj
 | f::r,cs,0,h,_=>by obtain⟨c,cs',rfl,hl,hd,hr⟩:=h;refine⟨c,hl,by simpa using hd,fun t ht=>?_⟩;rw[Nat.zero_mul,Nat.zero_add,List.getElem?_append_left (by omega)]
 | f::r,cs,j+1,h,hj=>by obtain⟨c,cs',rfl,hl,hd,hr⟩:=h;obtain⟨c2,h1,h2,h3⟩:=CellsG.at j hr (by simpa using hj);refine⟨c2,h1,by simpa using h2,fun t ht=>?_⟩;rw[←h3 t ht,show(j+1)*sz+t=c.length+(j*sz+t) by rw[hl,Nat.add_mul];omega,List.getElem?_append_right (by omega),Nat.add_sub_cancel_left]
end
theorem zBL {α:Type} [Inhabited α] {sz:Nat} {R:List Value→α→Prop} {w:World} (b:Nat):∀(fs:List α) (o:Nat),(∀j,j<fs.length→∃c,c.length=sz∧R c (fs.getD j default)∧∀t,t<sz→w.cell? ⟨b,o+j*sz+t,none⟩=c[t]?)→∃cs,CellsG sz R fs cs∧∀j u,cs[j]?=some u→w.cell? ⟨b,o+j,none⟩=some u
 | [],o,_=>⟨[],rfl,fun j u hu=>by simp at hu⟩
 | d::r,o,h=>by
   obtain⟨c,hl,hr,hx⟩:=h 0 (by simp)
   obtain⟨cs,hc,hy⟩:=zBL b r (o+sz) (fun j hj=>by
    obtain⟨c,hl,hr,hx⟩:=h (j+1) (by simpa using hj);refine⟨c,hl,by simpa using hr,fun t ht=>?_⟩;rw[←hx t ht,Nat.add_mul,Nat.one_mul]
    congr 2
    omega)
   refine⟨c++cs,⟨c,cs,rfl,hl,by simpa using hr,hc⟩,fun j u hu=>?_⟩;by_cases hj:j<sz
   · rw[List.getElem?_append_left (by omega)]at hu;have:=hx j hj;rw[Nat.zero_mul,Nat.add_zero]at this;rw[this,hu]
   · rw[List.getElem?_append_right (by omega),hl]at hu;have:=hy (j-sz) u hu;rw[show o+sz+(j-sz)=o+j by omega]at this;exact this
theorem zEc {P:Program} {w:World} {base e size n g cap i:Nat} {xs:List Value} (h:w.ownsRow base e size (.slice (some ⟨g,0,none⟩) n cap) n xs) (t:TypeId) (ht:P.underlying t=some (.slice e)) (z:Value) (hz:∀w,(zeroValue e).run P w=.ok z w) (hzs:z.cells.size=size) (hz1:∀u∈(Builtin.zeroCells z.cells (n-i)).toList,u.oneCell'=true) (hin:i<n) (c:Nat) :
 ∃w',(∀ty,(Builtin.clear_ #[t] ty #[.slice (some ⟨g,i*size,none⟩) (n-i) c]).run P w=.ok (.tuple #[]) w')∧w'.ownsRow base e size (.slice (some ⟨g,0,none⟩) i cap) i (xs.take (i*size))∧w.grownBy w' (some g):=by
 obtain⟨hlen,hor⟩:=h;rcases hor with ⟨h0,_⟩ | ⟨g',cap',cur,he,hbase,hg,hnc,hcm,hcs,htk⟩
 · cases h0
 obtain⟨rfl,rfl⟩:g=g'∧cap=cap':=by simpa using he
 have hzl:(Builtin.zeroCells z.cells (n-i)).toList.length=(n-i)*size:=by simp[Builtin.zeroCells,hzs]
 have hmul:i*size+(n-i)*size=n*size:=by rw[←Nat.add_mul];congr 1;omega
 have hmc:n*size≤cap*size:=Nat.mul_le_mul_right _ hnc;have hst:=run_storeCells_at P g (i*size) e (Builtin.zeroCells z.cells (n-i)).toList 0 cur w hg (by rw[hzl,Nat.add_zero];omega) hz1;rw[Nat.add_zero,hzl]at hst;obtain⟨m,hm⟩:∃m,n-i=m+1:=⟨n-i-1,by omega⟩;refine⟨w.setRow g (cur.toList.take (i*size)++(Builtin.zeroCells z.cells (n-i)).toList++cur.toList.drop (i*size+(n-i)*size)).toArray,fun ty=>?_,⟨?_,.inr ⟨g,cap,_,rfl,hbase,setRow_heap _ _ _ _ _ _ hg,by omega,hcm,?_,?_⟩⟩,?_⟩
 · rw[hm]at hst ⊢;simp[Builtin.clear_,run_underlying ht,hz];simp at hst;rw[hst];rfl
 · rw[List.length_take,hlen];have:i*size≤n*size:=Nat.mul_le_mul_right _ (by omega);omega
 · simp only[List.size_toArray,List.length_append,List.length_take,List.length_drop,Array.length_toList,hzl,hcs];omega
 · rw[List.append_assoc,List.take_left' (by rw[List.length_take,Array.length_toList,hcs];omega),←htk,List.take_take]
   congr 1
   omega
 · exact⟨rfl,rfl,rfl,by simp,fun k _ hk=>setRow_other _ _ _ _ (fun e=>hk (by rw[e]))⟩
theorem zDz {α:Type} (p:α→Bool):∀(l:List α) (k:Nat),(xJ p l k=-1∧(l.filter fun d=>!p d)=l)∨∃m,m<l.length∧xJ p l k=((k+m:Nat):Int)∧((l.take (m+1)).filter fun d=>!p d)=l.take m
 | [],k=>.inl ⟨rfl,rfl⟩
 | d::r,k=>by
   by_cases h:p d=true
   · exact .inr ⟨0,by simp,by simp[xJ,h],by simp[h]⟩
   · rcases zDz p r (k+1) with ⟨e1,e2⟩ | ⟨m,hm,e1,e2⟩
     · exact .inl ⟨by simp[xJ,h,e1],by simp[h,e2]⟩
     · refine .inr ⟨m+1,by simpa using hm,?_,?_⟩
       · simp only[xJ,h,if_false,Bool.false_eq_true,e1]
         congr 1
         omega
       · simp[List.take_succ_cons,h,e2]
structure KeptG {α:Type} (sz:Nat) (R:List Value→α→Prop) (p:α→Bool) (fs:List α) (cs:List Value) (i j:Nat) (ys:List Value):Prop where
 len:ys.length=cs.length
 lt:i<j
 le:j≤fs.length
 cnt:((fs.take j).filter fun d=>!p d).length=i
 kept:CellsG sz R ((fs.take j).filter fun d=>!p d) (ys.take (i*sz))
 rest:ys.drop (j*sz)=cs.drop (j*sz)
section
variable {α:Type} {sz:Nat} {R:List Value→α→Prop} {p:α→Bool} {fs:List α} {cs ys:List Value} {i j:Nat}
theorem KeptG.start {k:Nat} (hc:CellsG sz R fs cs) (hk:k<fs.length) (hf:((fs.take (k+1)).filter fun d=>!p d)=fs.take k):KeptG sz R p fs cs k (k+1) cs :=
 ⟨rfl,by omega,by omega,by rw[hf,List.length_take];omega,by rw[hf];exact hc.take k,rfl⟩
theorem KeptG.cell (h:KeptG sz R p fs cs i j ys) (t:Nat):ys[j*sz+t]?=cs[j*sz+t]?:=by
 have:=congrArg (fun l:List Value=>l[t]?) h.rest;simpa [List.getElem?_drop] using this
theorem KeptG.skip [Inhabited α] (h:KeptG sz R p fs cs i j ys) (hj:j<fs.length) (hp:p (fs.getD j default)=true):KeptG sz R p fs cs i (j+1) ys:=by
 have hf:((fs.take (j+1)).filter fun d=>!p d)=(fs.take j).filter fun d=>!p d:=by rw[zAC (fun d=>!p d) fs j hj,if_neg (by rw[hp];simp)]
 have hlt:=h.lt;refine⟨h.len,by omega,by omega,by rw[hf];exact h.cnt,by rw[hf];exact h.kept,?_⟩;have:=congrArg (fun l:List Value=>l.drop sz) h.rest;rw[Nat.add_mul,Nat.one_mul];simpa [List.drop_drop] using this
theorem KeptG.keep [Inhabited α] (h:KeptG sz R p fs cs i j ys) (hl:cs.length=fs.length*sz) (hj:j<fs.length) (hp:p (fs.getD j default)=false) {c:List Value} (hd:R c (fs.getD j default)) (hcl:c.length=sz) :
 KeptG sz R p fs cs (i+1) (j+1) (ys.take (i*sz)++c++ys.drop ((i+1)*sz)):=by
 have hf:((fs.take (j+1)).filter fun d=>!p d)=((fs.take j).filter fun d=>!p d)++[fs.getD j default]:=by rw[zAC (fun d=>!p d) fs j hj,if_pos (by rw[hp];rfl)]
 have hlt:=h.lt;have hlen:=h.len;have e1:(i+1)*sz=i*sz+sz:=by rw[Nat.add_mul,Nat.one_mul]
 have e2:(i+1)*sz≤fs.length*sz:=Nat.mul_le_mul_right _ (by omega);have e3:(i+1)*sz≤j*sz:=Nat.mul_le_mul_right _ (by omega);have hA:(ys.take (i*sz)++c).length=(i+1)*sz:=by rw[List.length_append,List.length_take,hcl];omega
 refine⟨?_,by omega,by omega,by rw[hf,List.length_append,h.cnt];rfl,?_,?_⟩
 · rw[List.length_append,hA,List.length_drop];omega
 · rw[hf,List.take_left' hA];exact CellsG.snoc hd hcl h.kept
 · have h3:ys.drop ((j+1)*sz)=cs.drop ((j+1)*sz):=by have:=congrArg (fun l:List Value=>l.drop sz) h.rest;rw[Nat.add_mul,Nat.one_mul];simpa [List.drop_drop] using this
   have e4:(j+1)*sz=j*sz+sz:=by rw[Nat.add_mul,Nat.one_mul]
   rw[←h3,List.drop_append,hA,List.drop_of_length_le (by rw[hA];omega),List.nil_append,List.drop_drop]
   congr 1
   omega
theorem KeptG.done (h:KeptG sz R p fs cs i fs.length ys):(fs.filter fun d=>!p d).length=i∧CellsG sz R (fs.filter fun d=>!p d) (ys.take (i*sz)):=by
 have h1:=h.cnt;have h2:=h.kept;rw[List.take_of_length_le (Nat.le_refl _)]at h1 h2;exact⟨h1,h2⟩
end
theorem zJq (ys:List Value) (i:Nat) (c0 c1 c2:Value) (h:i*3+2<ys.length) :
 (((ys.set (i*3) c0).set (i*3+1) c1).set (i*3+2) c2)=ys.take (i*3)++[c0,c1,c2]++ys.drop ((i+1)*3):=by
 apply List.ext_getElem?;intro q;rw[List.append_assoc,List.getElem?_append,List.getElem?_append];simp only[List.getElem?_set,List.length_set,List.length_take,List.length_cons,List.length_nil,List.getElem?_drop,List.getElem?_take];rw[Nat.min_eq_left (show i*3≤ys.length by omega)];by_cases h1:q<i*3
 · rw[if_neg (by omega),if_neg (by omega),if_neg (by omega),if_pos h1,if_pos h1]
 · rw[if_neg h1];by_cases h2:q<(i+1)*3
   · have h3:q=i*3∨q=i*3+1∨q=i*3+2:=by omega
     rcases h3 with rfl | rfl | rfl
     · rw[if_neg (by omega),if_neg (by omega),if_pos rfl,if_pos (by omega),if_pos (by omega),Nat.sub_self];rfl
     · rw[if_neg (by omega),if_pos rfl,if_pos (by omega),if_pos (by omega),show i*3+1-i*3=1 by omega];rfl
     · rw[if_pos rfl,if_pos (by omega),if_pos (by omega),show i*3+2-i*3=2 by omega];rfl
   · rw[if_neg (by omega),if_neg (by omega),if_neg (by omega),if_neg (by omega)]
     congr 1
     omega
def nodeC (w:World) (B:Nat) (c:List Value) (d:NodeD):Prop:=∃c0 c1 c2,c=[c0,c1,c2]∧NodeR w B c0 c1 c2 d
theorem cellsN_iff {w:World}:∀{fs:List NodeD} {cs:List Value},CellsN w fs cs↔CellsG 3 (nodeC w w.heap.size) fs cs
 | [],_=>Iff.rfl
 | d::r,cs=>by
   constructor
   · rintro⟨c0,c1,c2,cs',rfl,hd,hr⟩;exact⟨[c0,c1,c2],cs',rfl,rfl,⟨c0,c1,c2,rfl,hd⟩,cellsN_iff.1 hr⟩
   · rintro⟨c,cs',rfl,_,⟨c0,c1,c2,rfl,hd⟩,hr⟩;exact⟨c0,c1,c2,cs',rfl,hd,cellsN_iff.2 hr⟩
theorem zIE {w:World} {B:Nat} (c:List Value) (d:NodeD) (h:nodeC w B c d):∀u∈c,u.oneCell'=true:=by
 obtain⟨_,_,_,rfl,rfl,⟨A,n,c,rfl,_⟩,rfl⟩:=h;intro u hu;simp only[List.mem_cons,List.not_mem_nil,or_false]at hu;rcases hu with rfl | rfl | rfl <;> rfl
theorem zGf {w:World} {B:Nat} {A:Option Addr} {n:Nat} {fs:List NodeD} (h:Nodes w B A n fs):∃cs,CellsG 3 (nodeC w B) fs cs∧Reads w B 3 A n cs:=by
 obtain⟨hl,h2⟩:=h;rcases Nat.eq_zero_or_pos n with h0 | h0
 · subst h0;have:fs=[]:=List.eq_nil_of_length_eq_zero hl;subst this;exact⟨[],rfl,rfl,fun h=>absurd h (by omega)⟩
 · obtain⟨b,o,rfl,hb,hc⟩:=h2 h0
   obtain⟨cs,h3,h4⟩:=zBL (R:=nodeC w B) (sz:=3) (w:=w) b fs o (fun j hj=>by
    obtain⟨c0,c1,c2,e0,e1,e2,hr⟩:=hc j (by omega);refine⟨[c0,c1,c2],rfl,⟨c0,c1,c2,rfl,hr⟩,fun t ht=>?_⟩
    match t,ht with
    | 0,_=>exact e0
    | 1,_=>exact e1
    | 2,_=>exact e2)
   exact⟨cs,h3,by rw[h3.len,hl],fun _=>⟨_,rfl,hb,fun j u hu=>by rw[zJV];exact h4 j u hu⟩⟩
end Go.Proofs.YtgmaamnofhmecaaGreatDoor
namespace Go.Proofs.YtgmaamnofhmecaaGreatDoor
open Go.RowKit
theorem zDQ:∀(l:List UInt8),Op.bytesLess l l=false
 | []=>rfl
 | a::x=>by simp[Op.bytesLess,zDQ x]
theorem zDO:∀(a b c:List UInt8),Op.bytesLess a b=true→Op.bytesLess b c=true→Op.bytesLess a c=true
 | _,[],_,h,_=>by simp[Op.bytesLess]at h
 | _,_::_,[],_,h=>by simp[Op.bytesLess]at h
 | [],_::_,_::_,_,_=>rfl
 | a::x,b::y,c::z,h1,h2=>by
   simp only[Op.bytesLess,Bool.or_eq_true,Bool.and_eq_true,decide_eq_true_iff,beq_iff_eq]at h1 h2 ⊢;rcases h1 with h1 | ⟨rfl,h1⟩
   · rcases h2 with h2 | ⟨rfl,h2⟩
     · exact .inl (UInt8.lt_trans h1 h2)
     · exact .inl h1
   · rcases h2 with h2 | ⟨rfl,h2⟩
     · exact .inl h2
     · exact .inr ⟨rfl,zDO x y z h1 h2⟩
theorem zDP:∀(a b:List UInt8),Op.bytesLess a b=false→Op.bytesLess b a=false→a=b
 | [],[],_,_=>rfl
 | [],_::_,h,_=>by simp[Op.bytesLess]at h
 | _::_,[],_,h=>by simp[Op.bytesLess]at h
 | a::x,b::y,h1,h2=>by simp only[Op.bytesLess,Bool.or_eq_false_iff,Bool.and_eq_false_iff,decide_eq_false_iff_not,beq_eq_false_iff_ne]at h1 h2;have e:a=b:=UInt8.le_antisymm (UInt8.not_lt.1 h2.1) (UInt8.not_lt.1 h1.1);subst e;have r1:=h1.2.resolve_left (fun h=>h rfl);have r2:=h2.2.resolve_left (fun h=>h rfl);rw[zDP x y r1 r2]
theorem zIX {a b:ByteArray} (ha:wB a=true) (hb:wB b=true) (h:zH0 a.data.toList=zH0 b.data.toList):a=b:=by
 unfold wB at ha hb;rw[decide_eq_true_iff]at ha hb;apply xM;rw[yA,yA,←ha,←hb,h]
theorem zCZ (a b:ByteArray):decide (zAG a b<0)=uA a b:=by
 unfold zAG uA;cases ha:wB a <;> cases hb:wB b
 · simp only[Bool.false_and,if_neg (show ¬(false=true) by decide),bne_self_eq_false];unfold zAH;cases h:Op.bytesLess a.toList b.toList
   · by_cases he:a=b <;> simp[he]
   · simp
 · simp
 · simp
 · simp only[Bool.and_self,if_pos];unfold zEm;by_cases h1:zH0 a.data.toList<zH0 b.data.toList
   · simp[h1]
   · by_cases h2:zH0 b.data.toList<zH0 a.data.toList <;> simp[h1,h2]
theorem vS (a b:ByteArray):zAG a b=0↔a=b:=by
 constructor
 · intro h;unfold zAG at h;cases ha:wB a <;> cases hb:wB b
   · rw[ha,hb]at h;simp at h;unfold zAH at h;split at h
     · omega
     · split at h
       · assumption
       · omega
   · rw[ha,hb]at h;simp at h
   · rw[ha,hb]at h;simp at h
   · rw[ha,hb]at h;simp at h;unfold zEm at h;split at h
     · omega
     · split at h
       · omega
       · exact zIX ha hb (by omega)
 · rintro rfl;unfold zAG;cases ha:wB a
   · simp;unfold zAH;rw[zDQ];simp
   · simp;unfold zEm;simp
theorem zHN (a:ByteArray):uA a a=false:=by
 rw[←zCZ,(vS a a).2 rfl];rfl
theorem zFz (a b c:ByteArray) (h1:uA a b=true) (h2:uA b c=true):uA a c=true:=by
 unfold uA at h1 h2 ⊢;cases ha:wB a <;> cases hb:wB b <;> cases hc:wB c <;> rw[ha,hb]at h1 <;> rw[hb,hc]at h2 <;> simp at h1 h2 ⊢
 · exact zDO _ _ _ h1 h2
 · omega
theorem zFA (a b:ByteArray) (h:a≠b):uA a b=true∨uA b a=true:=by
 rcases Int.lt_trichotomy (zAG a b) 0 with h1 | h1 | h1
 · exact .inl (by rw[←zCZ];simpa using h1)
 · exact absurd ((vS a b).1 h1) h
 · right;unfold zAG at h1;unfold uA;cases ha:wB a <;> cases hb:wB b <;> rw[ha,hb]at h1 <;> simp at h1 ⊢
   · unfold zAH at h1;cases hx:Op.bytesLess b.toList a.toList
     · cases hy:Op.bytesLess a.toList b.toList
       · exact absurd (xM (zDP _ _ hy hx)) h
       · rw[hy]at h1;simp at h1
     · rfl
   · unfold zEm at h1;split at h1
     · omega
     · split at h1
       · assumption
       · omega
theorem zFu:∀(a b:List ByteArray),decide (vQ a b<0)=vE a b
 | [],[]=>rfl
 | [],_::_=>rfl
 | _::_,[]=>rfl
 | x::r,y::s=>by
   unfold vQ vE;by_cases h:x=y
   · subst h;rw[if_pos ((vS x x).2 rfl),if_pos rfl,zFu r s]
   · rw[if_neg (fun e=>h ((vS x y).1 e)),if_neg h,zCZ]
theorem zEN:∀(a b:List ByteArray),vQ a b=0↔a=b
 | [],[]=>by simp[vQ]
 | [],_::_=>by simp[vQ]
 | _::_,[]=>by simp[vQ]
 | x::r,y::s=>by
   unfold vQ;by_cases h:x=y
   · subst h;rw[if_pos ((vS x x).2 rfl),zEN r s];simp
   · have ht:¬zAG x y=0:=fun e=>h ((vS x y).1 e);rw[if_neg ht];simp[h];exact ht
theorem wY (a b:ByteArray):zAH a b=0↔a=b:=by
 unfold zAH;constructor
 · intro h;split at h
   · omega
   · split at h
     · assumption
     · omega
 · rintro rfl;rw[zDQ];simp
theorem zKt (a b:ByteArray):decide (zAH a b<0)=Op.bytesLess a.toList b.toList:=by
 unfold zAH;cases h:Op.bytesLess a.toList b.toList
 · by_cases he:a=b <;> simp[he]
 · simp
theorem zIU (n n':ByteArray) (s s':List ByteArray):decide (zP0 n s n' s'<0)=zAw n s n' s':=by
 unfold zP0 zAw orI;by_cases h:n=n'
 · subst h;rw[if_pos ((wY n n).2 rfl),if_pos rfl,zFu]
 · rw[if_neg (fun e=>h ((wY n n').1 e)),if_neg h,zKt]
theorem zGJ (n n':ByteArray) (s s':List ByteArray):zP0 n s n' s'=0↔n=n'∧s=s':=by
 unfold zP0 orI;by_cases h:n=n'
 · subst h;rw[if_pos ((wY n n).2 rfl),zEN];simp
 · rw[if_neg (fun e=>h ((wY n n').1 e)),wY];simp[h]
theorem zCs:∀(a b c:List ByteArray),vE a b=true→vE b c=true→vE a c=true
 | _,[],[],_,h=>by simp[vE]at h
 | [],[],_::_,h,_=>by simp[vE]at h
 | _::_,[],_::_,h,_=>by simp[vE]at h
 | _,_::_,[],_,h=>by simp[vE]at h
 | [],_::_,_::_,_,_=>rfl
 | x::r,y::s,z::t,h1,h2=>by
   unfold vE at h1 h2 ⊢;by_cases e1:x=y
   · subst e1;rw[if_pos rfl]at h1;by_cases e2:x=z
     · subst e2;rw[if_pos rfl]at h2 ⊢;exact zCs r s t h1 h2
     · rw[if_neg e2]at h2 ⊢;exact h2
   · rw[if_neg e1]at h1;by_cases e2:y=z
     · subst e2;rw[if_neg e1];exact h1
     · rw[if_neg e2]at h2;have h3:=zFz x y z h1 h2;by_cases e3:x=z
       · subst e3;rw[zHN]at h3;cases h3
       · rw[if_neg e3];exact h3
theorem zGh (n1 n2 n3:ByteArray) (s1 s2 s3:List ByteArray) (h1:zAw n1 s1 n2 s2=true) (h2:zAw n2 s2 n3 s3=true):zAw n1 s1 n3 s3=true:=by
 unfold zAw at h1 h2 ⊢;by_cases e1:n1=n2
 · subst e1;rw[if_pos rfl]at h1;by_cases e2:n1=n3
   · subst e2;rw[if_pos rfl]at h2 ⊢;exact zCs _ _ _ h1 h2
   · rw[if_neg e2]at h2 ⊢;exact h2
 · rw[if_neg e1]at h1;by_cases e2:n2=n3
   · subst e2;rw[if_neg e1];exact h1
   · rw[if_neg e2]at h2;have h3:=zDO _ _ _ h1 h2;by_cases e3:n1=n3
     · subst e3;rw[zDQ]at h3;cases h3
     · rw[if_neg e3];exact h3
end Go.Proofs.YtgmaamnofhmecaaGreatDoor
