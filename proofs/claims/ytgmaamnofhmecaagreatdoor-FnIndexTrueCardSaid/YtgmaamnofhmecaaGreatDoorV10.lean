import Derived.Test.YtgmaamnofhmecaaGreatDoorV00
import Derived.Test.YtgmaamnofhmecaaGreatDoorV01
import Derived.Test.YtgmaamnofhmecaaGreatDoorV09
import Derived.Deep.AppendLies
import Derived.Laws.OwnMore
import Derived.Maps.AppendAt
import Derived.OwnWalk
import Derived.RegionTactic
import Derived.Deep.RegionLaw
open Go.Lib renaming hid → zh
namespace Go.Proofs.YtgmaamnofhmecaaGreatDoor
open Go.RowKit
theorem zCL (a:Addr) (n:Nat):(a.add n).block=a.block:=by unfold Addr.add;split <;> rfl
theorem zIA (a:Addr) (i j:Nat):(a.add i).add j=a.add (i+j):=by
 unfold Addr.add;by_cases hi:i=0 <;> by_cases hj:j=0 <;> simp[hi,hj,Nat.add_assoc]
def Reads (w:World) (B size:Nat) (A:Option Addr) (n:Nat) (xs:List Value):Prop :=
 xs.length=n*size∧(0<n→∃ad,A=some ad∧ad.block<B∧∀j u,xs[j]?=some u→w.cell? (ad.add j)=some u)
section
variable {w w':World} {B B' size n:Nat} {A:Option Addr} {xs:List Value}
theorem Reads.keep (h:Reads w B size A n xs) (hk:∀p:Addr,p.block<B→w'.cell? p=w.cell? p):Reads w' B size A n xs :=
 ⟨h.1,fun hn=>by
   obtain⟨ad,e,hb,hc⟩:=h.2 hn
   exact⟨ad,e,hb,fun j u hu=>(hk _ (by rw[zCL];exact hb)).trans (hc j u hu)⟩⟩
theorem Reads.more (h:Reads w B size A n xs) (hB:B≤B'):Reads w B' size A n xs :=
 ⟨h.1,fun hn=>by
   obtain⟨ad,e,hb,hc⟩:=h.2 hn
   exact⟨ad,e,by omega,hc⟩⟩
theorem Reads.below (h:Reads w B size A n xs) (hb:Below B w w'):Reads w' B size A n xs:=h.keep fun _ hp=>hb.cell hp
theorem Reads.alloc (h:Reads w B size A n xs) (hB:B≤w.heap.size) (o:Obj):Reads (w.alloc o) B size A n xs:=h.keep fun p hp=>World.cell?_alloc_lt w o p (by omega)
theorem Reads.grown (h:Reads w B size A n xs) {row:Option Nat} (hg:w.grownBy w' row) (hB:B≤w.heap.size) (hr:∀g,row=some g→B≤g):Reads w' B size A n xs :=
 h.keep fun p hp=>World.cell?_of_block (hg.block p.block (by omega) (fun e=>by have:=hr _ e.symm;omega))
theorem Reads.cut (h:Reads w B size A n xs) {k cap:Nat} (hk:k≤n) (hc:n≤cap) :
 Reads w B size (if cap=k then A else A.map (·.add (k*size))) (n-k) (xs.drop (k*size)):=by
 refine⟨by rw[List.length_drop,h.1,Nat.sub_mul],fun hn=>?_⟩;obtain⟨ad,rfl,hb,hcell⟩:=h.2 (by omega);rw[if_neg (by omega)];refine⟨ad.add (k*size),rfl,by rw[zCL];exact hb,fun j u hu=>?_⟩;rw[zIA];exact hcell _ u (by rw[←hu,List.getElem?_drop])
theorem Reads.of_own {base:Nat} {e:TypeId} {c:Nat} (h:w.ownsRow base e size (.slice A n c) n xs):Reads w w.heap.size size A n xs:=by
 refine⟨h.1,fun hn=>?_⟩;obtain⟨g,cap,hv,_,hlt⟩:=h.form hn;have hA:A=some ⟨g,0,none⟩:=by injection hv
 subst hA;exact⟨_,rfl,hlt,h.cells (g:=g) rfl⟩
end
section
variable {P:Program} (w:World)
theorem zCr (base:Nat) (t ty e:TypeId) (i:TypeInfo) (size:Nat) (ht:P.underlying t=some (.slice e)) (hi:P.info? e=some i)
 (v:Value) (n:Nat) (xs:List Value) (hown:w.ownsRow base e size v n xs) (c:Nat):(Builtin.append_ #[t,t] ty #[v,.slice none 0 c]).run P w=.ok v w:=by
 rcases hown.2 with ⟨rfl,rfl⟩ | ⟨g,cap,cur,rfl,_,_,hnc,_⟩
 · simp[Builtin.append_,run_underlying ht,sizeOf,typeInfo,hi,Builtin.lenOf,Builtin.firstCells]
 · simp[Builtin.append_,run_underlying ht,sizeOf,typeInfo,hi,Builtin.lenOf,Builtin.firstCells,hnc,storeCells]
theorem zEg (base:Nat) (t ty e:TypeId) (i:TypeInfo) (z:Value) (size bytes:Nat) (ht:P.underlying t=some (.slice e)) (hi:P.info? e=some i) (hz:i.zero=some z)
 (hsize:i.size=size) (hby:i.bytes=bytes) (hzs:z.cells.size=size) (hsz:0<size)
 (v:Value) (n:Nat) (xs:List Value) (hown:w.ownsRow base e size v n xs)
 (B:Nat) (A:Option Addr) (m c:Nat) (news:List Value) (hr:Reads w B size A m news) (h1:∀u∈news,u.oneCell'=true)
 (h63:n+m≤maxLen) (hbytes:(n+m)*bytes≤140737488355328) (hbase:base≤w.heap.size) :
 ∃v' w',(Builtin.append_ #[t,t] ty #[v,.slice A m c]).run P w=.ok v' w'∧w'.ownsRow base e size v' (n+m) (xs++news)∧w.grownBy w' v.ownBlock ∧
  (v'.ownBlock=v.ownBlock∨v'.ownBlock=some w.heap.size):=by
 rcases A with _ | ad
 · have hm:m=0:=by
    rcases Nat.eq_zero_or_pos m with h0 | h0
    · exact h0
    · obtain⟨ad,h,_⟩:=hr.2 h0;cases h
   subst hm;have hn:news=[]:=List.eq_nil_of_length_eq_zero (by simpa using hr.1);subst hn;exact⟨v,w,zCr w base t ty e i size ht hi v n xs hown c,by simpa using hown,World.grownBy.refl w _,.inl rfl⟩
 · have hcells:∀j u,news[j]?=some u→w.cell? (ad.add j)=some u:=by
    intro j u hu;rcases Nat.eq_zero_or_pos m with h0 | h0
    · subst h0;have hn:news=[]:=List.eq_nil_of_length_eq_zero (by simpa using hr.1);subst hn;simp at hu
    · obtain⟨ad',h,_,hc⟩:=hr.2 h0;injection h with h;subst h;exact hc j u hu
   obtain⟨v',w',hrun,h2,h3,_,h5⟩:=run_append_own_at (P:=P) w base t ty e i z size bytes ht hi hz hsize hby hzs hsz v n xs hown ad m c news hr.1 hcells h1 h63 hbytes hbase;exact⟨v',w',hrun,h2,h3,h5⟩
theorem zBS {o:Oper} {a:Act} {K:Act→World→Prop} {Q:Exit→Act→World→Prop} (s x:Operand) (t:TypeId)
 (ho:o.op=.call { callee:=.builtin .append,args:=#[s,x],argTypes:=#[t,t] })
 (base:Nat) (e:TypeId) (i:TypeInfo) (z:Value) (size bytes:Nat) (ht:P.underlying t=some (.slice e)) (hi:P.info? e=some i) (hz:i.zero=some z)
 (hsize:i.size=size) (hby:i.bytes=bytes) (hzs:z.cells.size=size) (hsz:0<size)
 (v:Value) (n:Nat) (xs:List Value) (hs:a.eval s=v) (hown:w.ownsRow base e size v n xs)
 (B:Nat) (A:Option Addr) (m c:Nat) (news:List Value) (hx:a.eval x=.slice A m c) (hr:Reads w B size A m news) (h1:∀u∈news,u.oneCell'=true)
 (h63:n+m≤maxLen) (hbytes:(n+m)*bytes≤140737488355328) (hbase:base≤w.heap.size)
 (h:∀v' w',w'.ownsRow base e size v' (n+m) (xs++news)→w.grownBy w' v.ownBlock→(v'.ownBlock=v.ownBlock∨v'.ownBlock=some w.heap.size)→K (a.put o.dst v') w'):o.wp P a w K Q:=by
 obtain⟨v',w',hrun,h2,h3,h4⟩:=zEg (P:=P) w base t o.type e i z size bytes ht hi hz hsize hby hzs hsz v n xs hown B A m c news hr h1 h63 hbytes hbase;unfold Oper.wp execOp;simp only[ho,resolve,invoke,builtin,Sem.run_bind,Sem.run_pure,Result.andThen_ok,List.map_toArray,List.map_cons,List.map_nil,hs,hx,hrun];exact h v' w' h2 h3 h4
theorem wE {ops:Array Oper} {rest:List Oper} {o:Oper} {a:Act} {Q:Exit→Act→World→Prop} (hgd:o.guard=none) (s x:Operand) (t:TypeId)
 (ho:o.op=.call { callee:=.builtin .append,args:=#[s,x],argTypes:=#[t,t] })
 (base:Nat) (e:TypeId) (i:TypeInfo) (z:Value) (size bytes:Nat) (ht:P.underlying t=some (.slice e)) (hi:P.info? e=some i) (hz:i.zero=some z)
 (hsize:i.size=size) (hby:i.bytes=bytes) (hzs:z.cells.size=size) (hsz:0<size)
 (v:Value) (n:Nat) (xs:List Value) (hs:a.eval s=v) (hown:w.ownsRow base e size v n xs)
 (B:Nat) (A:Option Addr) (m c:Nat) (news:List Value) (hx:a.eval x=.slice A m c) (hr:Reads w B size A m news) (h1:∀u∈news,u.oneCell'=true)
 (h63:n+m≤maxLen) (hbytes:(n+m)*bytes≤140737488355328) (hbase:base≤w.heap.size)
 (h:∀v' w',w'.ownsRow base e size v' (n+m) (xs++news)→w.grownBy w' v.ownBlock→(v'.ownBlock=v.ownBlock∨v'.ownBlock=some w.heap.size)→wpList P ops Q rest (a.put o.dst v') w'):wpList P ops Q (o::rest) a w :=
 wpList_plain hgd fun _ hK=>zBS w s x t ho base e i z size bytes ht hi hz hsize hby hzs hsz v n xs hs hown B A m c news hx hr h1 h63 hbytes hbase fun v' w' h2 h3 h4=>hK _ _ (h v' w' h2 h3 h4)
theorem uM {ops:Array Oper} {o:Oper} {a:Act} {K:Act→World→Prop} {Q:Exit→Act→World→Prop} {E:Prop} (hgd:o.guard=none) (s x:Operand) (t:TypeId)
 (ho:o.op=.call { callee:=.builtin .append,args:=#[s,x],argTypes:=#[t,t] })
 (base:Nat) (e:TypeId) (i:TypeInfo) (z:Value) (size bytes:Nat) (ht:P.underlying t=some (.slice e)) (hi:P.info? e=some i) (hz:i.zero=some z)
 (hsize:i.size=size) (hby:i.bytes=bytes) (hzs:z.cells.size=size) (hsz:0<size)
 (v:Value) (n:Nat) (xs:List Value) (hs:a.eval s=v) (hown:w.ownsRow base e size v n xs)
 (B:Nat) (A:Option Addr) (m c:Nat) (news:List Value) (hx:a.eval x=.slice A m c) (hr:Reads w B size A m news) (h1:∀u∈news,u.oneCell'=true)
 (h63:n+m≤maxLen) (hbytes:(n+m)*bytes≤140737488355328) (hbase:base≤w.heap.size)
 (h:∀v' w',w'.ownsRow base e size v' (n+m) (xs++news)→w.grownBy w' v.ownBlock→(v'.ownBlock=v.ownBlock∨v'.ownBlock=some w.heap.size)→K (a.put o.dst v') w') :
 if Region.wanted o (yielded ops a.tmps)=true then Oper.wp P o a w K Q else E:=by
 have hw:Region.wanted o (yielded ops a.tmps)=true:=by simp[Region.wanted,hgd]
 rw[if_pos hw];exact zBS w s x t ho base e i z size bytes ht hi hz hsize hby hzs hsz v n xs hs hown B A m c news hx hr h1 h63 hbytes hbase h
end
theorem zHN {w:World} {B n:Nat} {A:Option Addr} {ss:List ByteArray} (h:Strs w B A n ss):Reads w B 1 A n (ss.map Value.string) :=
 ⟨by simp[h.1],fun hn=>by
   obtain⟨b,o,e,hb,hc⟩:=h.2 hn;refine⟨⟨b,o,none⟩,e,hb,fun j u hu=>?_⟩;rw[List.getElem?_map]at hu
   have hj:j<ss.length:=by
    rcases Nat.lt_or_ge j ss.length with h1 | h1
    · exact h1
    · rw[List.getElem?_eq_none h1]at hu;cases hu
   rw[List.getElem?_eq_getElem hj]at hu;have hu':u=.string ss[j]:=by simpa using hu.symm
   subst hu';have:=hc j (by rw[←h.1];exact hj);rw[List.getD_eq_getElem?_getD,List.getElem?_eq_getElem hj]at this;unfold Addr.add;split
   · rename_i h0;subst h0;simpa using this
   · simpa using this⟩
theorem vS {w0 w w':World} {base e size n:Nat} {v:Value} {xs:List Value} (hb:Below w0.heap.size w0 w) (ho:w.ownsRow base e size v n xs) (hbase:w0.heap.size≤base) (hg:w.grownBy w' v.ownBlock):Below w0.heap.size w0 w' :=
 hb.grown hg hb.size (fun g hg'=>by have:=(ho.lt g hg').1;omega)
end Go.Proofs.YtgmaamnofhmecaaGreatDoor
namespace Go.Proofs.YtgmaamnofhmecaaGreatDoor
open Go.RowKit
theorem zV0 (w:World) (cs:Array Value) (t:TypeId):∀j u,cs.toList[j]?=some u→(w.alloc (.cells cs t)).cell? ((⟨w.heap.size,0,none⟩:Addr).add j)=some u:=by
 intro j u hu;have h:=cell_of_row _ w.heap.size j cs t (0,0) (heap_alloc_new w (.cells cs t));have hu':cs[j]?=some u:=by rw[←Array.getElem?_toList];exact hu
 unfold Addr.add;split
 · rename_i h0;subst h0;rw[h,hu']
 · rw[show(⟨w.heap.size,0+j,none⟩:Addr)=⟨w.heap.size,j,none⟩ from by simp,h,hu']
theorem vZ (w:World) (cs:Array Value) (t:TypeId) (g:Nat) (hg:w.heap.size=g):∀j u,cs.toList[j]?=some u→(w.alloc (.cells cs t)).cell? ((⟨g,0,none⟩:Addr).add j)=some u:=by
 subst hg;exact zV0 w cs t
theorem zAa {s:ByteArray} {l:List UInt8} (h:s≠⟨l.toArray⟩):(s.toList==l)=false:=by
 have:=vE h;simpa [yD] using this
def CellsN (w:World):List NodeD→List Value→Prop
 | [],cs=>cs=[]
 | d::r,cs=>∃c0 c1 c2 cs',cs=c0::c1::c2::cs'∧NodeR w w.heap.size c0 c1 c2 d∧CellsN w r cs'
theorem CellsN.snoc {w:World} {d:NodeD} {c0 c1 c2:Value} (hd:NodeR w w.heap.size c0 c1 c2 d):∀{fs:List NodeD} {cs:List Value},CellsN w fs cs→CellsN w (fs++[d]) (cs++[c0,c1,c2])
 | [],cs,h=>by have h:cs=[]:=h;subst h;exact⟨c0,c1,c2,[],rfl,hd,rfl⟩
 | f::r,cs,h=>by obtain⟨a0,a1,a2,cs',rfl,ha,hr⟩:=h;exact⟨a0,a1,a2,cs'++[c0,c1,c2],rfl,ha,CellsN.snoc hd hr⟩
theorem CellsN.at {w:World}:∀{fs:List NodeD} {cs:List Value} (j:Nat),CellsN w fs cs→j<fs.length→∃c0 c1 c2,cs[j*3]?=some c0∧cs[j*3+1]?=some c1∧cs[j*3+2]?=some c2∧NodeR w w.heap.size c0 c1 c2 (fs.getD j default)
 | [],_,j,_,hj=>by simp at hj
 | f::r,cs,0,h,_=>by obtain⟨a0,a1,a2,cs',rfl,ha,_⟩:=h;exact⟨a0,a1,a2,rfl,rfl,rfl,ha⟩
 | f::r,cs,j+1,h,hj=>by
   obtain⟨a0,a1,a2,cs',rfl,_,hr⟩:=h;obtain⟨b0,b1,b2,e0,e1,e2,hb⟩:=CellsN.at j hr (by simpa using hj);refine⟨b0,b1,b2,?_,?_,?_,by simpa using hb⟩
   · rw[show(j+1)*3=j*3+3 by omega];simpa using e0
   · rw[show(j+1)*3+1=(j*3+1)+3 by omega];simpa using e1
   · rw[show(j+1)*3+2=(j*3+2)+3 by omega];simpa using e2
theorem uI {w W:World} {base n:Nat} {v:Value} {fs:List NodeD} {cs:List Value} (h:W.ownsRow base 102 3 v n cs) (hn:fs.length=n) (hc:CellsN w fs cs) (hb:Below w.heap.size w W):∃A cap,v=.slice A n cap∧n≤cap∧Nodes W W.heap.size A n fs:=by
 obtain⟨A,cap,rfl,hcap,_,hA⟩:=Own.own_slice h;refine⟨A,cap,rfl,hcap,hn,fun hp=>?_⟩;obtain⟨g,rfl,hg,_⟩:=hA hp;refine⟨g,0,rfl,hg,fun j hj=>?_⟩;obtain⟨c0,c1,c2,e0,e1,e2,hr⟩:=CellsN.at j hc (by omega);refine⟨c0,c1,c2,?_,?_,?_,hr.later hb⟩
 · rw[Nat.zero_add];exact Own.own_cell h _ _ (by omega) e0
 · rw[Nat.zero_add];exact Own.own_cell h _ _ (by omega) e1
 · rw[Nat.zero_add];exact Own.own_cell h _ _ (by omega) e2
def yI (g:ByteArray) (d:NodeD):Bool:=decide (d.name=g)&&(decide (d.subs.length=2)&&decide (d.subs.getD 0 ByteArray.empty=⟨#[114]⟩))
def yA (g:ByteArray) (fs:List NodeD):List NodeD:=fs.filter (yI g)
theorem xW {α:Type} [Inhabited α] (p:α→Bool) (l:List α) (k:Nat) (h:k<l.length):(l.take (k+1)).filter p=if p (l.getD k default)=true then (l.take k).filter p++[l.getD k default] else (l.take k).filter p:=by
 rw[List.take_succ_eq_append_getElem h,List.filter_append,List.getD_eq_getElem?_getD,List.getElem?_eq_getElem h,Option.getD_some];by_cases e:p l[k]=true
 · rw[if_pos e];simp[e]
 · rw[if_neg e];simp[e]
theorem zEA {α:Type} (p:α→Bool) (l:List α) (k:Nat):((l.take k).filter p).length≤k:=by
 have:=List.length_filter_le p (l.take k);rw[List.length_take]at this;omega
def zFK (w0:World) (fs:List NodeD) (e:Ending) (w':World):Prop:=∃v cs,e=.returned v∧w'.ownsRow w0.heap.size 102 3 v fs.length cs∧CellsN w0 fs cs∧Below w0.heap.size w0 w'
set_option maxRecDepth 100000 in
set_option maxHeartbeats 4000000 in
theorem zAL (A:Option Addr) (n c:Nat) (b0 b1 b2 b3:Value) (fs:List NodeD) (b:TableD) (w:World) (h:Nodes w w.heap.size A n fs) (hb:TableR w w.heap.size b0 b1 b2 b3 b) (hs:wB fs) :
 Calls Tryz.prog 135 #[.agg #[.slice A n c],.agg #[b0,b1,b2,b3]] w (zFK w (yA b.glob fs)):=by
 obtain⟨i0,hi,hz0,hz1,hz2⟩:=info_parts zAy;obtain⟨rfl,rfl,⟨A2,n2,p2,rfl,s2,k2⟩,⟨A3,n3,p3,rfl,s3,k3⟩⟩:=hb;have Hh:=zh h;have Hlen:=zh h.1;have hn:n≤1048576:=by rw[←h.1];exact hs.1
 have Hs:=zh hs;clear h hs s2 s3;have HP:Hid (∀d,yI b.glob d=(decide (d.name=b.glob)&&(decide (d.subs.length=2)&&decide (d.subs.getD 0 ByteArray.empty=⟨#[114]⟩)))):=fun _=>rfl;have HRN:Hid (yA b.glob fs=fs.filter (yI b.glob)):=rfl;generalize yA b.glob fs=OUT at *;generalize yI b.glob=P at *;generalize b.glob=gl at *;generalize b.name=nm at *;go_enter Tryz.func135,Tryz.ntmps135;go_wp2_with fail;go_loopw [5,6] (fun v i wr=>∃(k:Nat) (cs:List Value),k≤n∧i=.int .i64 k∧wr.ownsRow (w.heap.size+1+1) 102 3 v ((fs.take k).filter P).length cs∧CellsN w ((fs.take k).filter P) cs∧Below (w.heap.size+1+1) ((w.alloc (.cells #[.slice A n c] 26)).alloc (.cells #[.string nm,.string gl,.slice A2 n2 p2,.slice A3 n3 p3] 29)) wr) (fun _ i _=>n-(intOf i).toNat);case atStart=>exact⟨0,[],Nat.zero_le _,rfl,by simpa using World.ownsRow_lit (e:=102) (size:=3) ((w.alloc (.cells #[.slice A n c] 26)).alloc (.cells #[.string nm,.string gl,.slice A2 n2 p2,.slice A3 n3 p3] 29)) #[] 0 (Nat.le_refl _) (by omega) rfl,rfl,(Below.refl _ _).alloc (by first | exact Nat.le_refl _ | (simp;done) | (simp;omega)) _⟩
 case round =>
  obtain⟨k,cs,hk,rfl,hown,hcs,hb⟩:=hrel;have px:=(Blk.later (uC w _ _) hb (by omega)).cell;have py:=(Blk.later (xB w _ _) hb (by omega)).cell;have hz3:w.heap.size+1<wr.heap.size:=by have:=hb.size;simp at this;omega
  have HBk:=zh hb;have HBw:=zh (((Below.new w _).later (Below.new _ _)).trans (hb.mono (by omega)));have HO:=zh hown;have HC:=zh hcs;have hml:=zEA P fs k;clear hb hown hcs;by_cases hlt:k<n
  · obtain⟨bb,o,e0,hbB0,hc0⟩:=Hh.out.2 (by omega);obtain⟨c0,c1,c2,k0,k1,k2,hr⟩:=hc0 k hlt;obtain⟨bb',o',e0',hbB,hc'⟩:=(Hh.out.later HBw.out).2 (by omega);obtain⟨d0,d1,d2,l0,l1,l2,hrl⟩:=hc' k hlt;subst e0;simp only[Option.some.injEq,Addr.mk.injEq,and_true]at e0';obtain⟨rfl,rfl⟩:=e0';have j0:=(HBw.out.cell (p:=⟨bb,o+k*3,none⟩) hbB0).trans k0;have j1:=(HBw.out.cell (p:=⟨bb,o+k*3+1,none⟩) hbB0).trans k1;have j2:=(HBw.out.cell (p:=⟨bb,o+k*3+2,none⟩) hbB0).trans k2;rw[j0]at l0;rw[j1]at l1;rw[j2]at l2;cases l0;cases l1;cases l2;clear hc0 hc' k0 k1 k2;have hl1:k<fs.length:=by rw[Hlen.out];exact hlt
    have HTS:=zh (xW P fs k hl1);have HPd:=zh (HP.out (fs.getD k default));clear hl1;generalize fs.getD k default=d at *;have HNR:=zh hr;clear hr;obtain⟨e0,⟨A1,n1,cap1,e1,hs1,hcap1⟩,e2⟩:=hrl;subst e0 e1 e2;have HL1:=zh hs1.1;have hc1:=hs1.2;have HC1:=zh hc1;clear hs1 hc1;generalize hM:((fs.take k).filter P).length=m at *;have HM:=zh hM;clear hM;by_cases hnm:d.name=gl
    case neg =>
     have HE:Hid ((fs.take (k+1)).filter P=(fs.take k).filter P):=by unfold Hid;rw[HTS.out,if_neg (by rw[HPd.out];simp[hnm])]
     have hbe:=vE hnm;clear hnm;go_wp2_with fail;go_roundw
     case rel =>
      refine⟨k+1,cs,by omega,by go_num,?_,?_,HBk.out.alloc (by omega) _⟩
      · rw[HE.out,HM.out];exact Own.own_later HO.out (Below.new _ _)
      · rw[HE.out];exact HC.out
     case measure=>simp[intOf];omega
    subst hnm;by_cases hn2:n1=2
    case neg =>
     have HE:Hid ((fs.take (k+1)).filter P=(fs.take k).filter P):=by unfold Hid;rw[HTS.out,if_neg (by rw[HPd.out];simp[HL1.out,hn2])]
     have hb3:((n1:Int)==2)=false:=by rw[beq_eq_false_iff_ne];omega
     have hb4:(n1==2)=false:=by rw[beq_eq_false_iff_ne];omega
     clear hn2;go_wp2_with fail;go_roundw
     case rel =>
      refine⟨k+1,cs,by omega,by go_num,?_,?_,HBk.out.alloc (by omega) _⟩
      · rw[HE.out,HM.out];exact Own.own_later HO.out (Below.new _ _)
      · rw[HE.out];exact HC.out
     case measure=>simp[intOf];omega
    subst hn2;obtain⟨sb,so,e1,hsb,hsc⟩:=HC1.out (by omega);subst e1;have hck:=hsc 0 (by omega);clear hsc;rw[Nat.add_zero]at hck;by_cases hsub:d.subs.getD 0 ByteArray.empty=⟨#[114]⟩
    case neg =>
     have HE:Hid ((fs.take (k+1)).filter P=(fs.take k).filter P):=by unfold Hid;rw[HTS.out,if_neg (by rw[HPd.out];rw[HL1.out,decide_eq_false hsub];simp)]
     have hbe:=vE hsub;have hbe3:=zAa hsub;generalize d.subs.getD 0 ByteArray.empty=s0 at *;clear hsub;go_wp2_with fail;go_roundw
     case rel =>
      refine⟨k+1,cs,by omega,by go_num,?_,?_,HBk.out.alloc (by omega) _⟩
      · rw[HE.out,HM.out];exact Own.own_later HO.out (Below.new _ _)
      · rw[HE.out];exact HC.out
     case measure=>simp[intOf];omega
    have HE:Hid ((fs.take (k+1)).filter P=(fs.take k).filter P++[d]):=by unfold Hid;rw[HTS.out,if_pos (by rw[HPd.out,HL1.out,decide_eq_true hsub];simp)]
    have hrow:Hid (∀o o',((wr.alloc o).alloc o').ownsRow (w.heap.size+1+1) 102 3 u5 m cs):=fun o o'=>Own.own_later (Own.own_later HO.out (Below.new _ _)) (Below.new _ _);rw[hsub]at hck;clear hsub;go_wp2_with (at_builtin;refine wpList_append_own _ rfl (.tmp 39) (.tmp 41) 24 rfl (w.heap.size+1+1) 102 i0 _ 3 56 Tryz.underlying24 hi hz0 hz1 hz2 rfl (by decide) _ m _ rfl (hrow.out _ _) ⟨_,0,none⟩ 1 1 [.string d.name,.slice (some ⟨sb,so,none⟩) 2 cap1,.string d.val] rfl rfl ?c1 ?c2 ?c3 ?c4 ?c5 ?_);case c2=>simp[Value.oneCell']
    case c3=>unfold maxLen;omega
    case c4=>omega
    case c5=>first | omega | (simp;omega)
    intro v1 w2 hown1 hg1 _;have HO3:Hid (w2.ownsRow (w.heap.size+1+1) 102 3 v1 ((fs.take (k+1)).filter P).length (cs++[.string d.name,.slice (some ⟨sb,so,none⟩) 2 cap1,.string d.val])):=by unfold Hid;rw[HE.out,List.length_append,List.length_singleton,HM.out];exact hown1
    have HC3:Hid (CellsN w ((fs.take (k+1)).filter P) (cs++[.string d.name,.slice (some ⟨sb,so,none⟩) 2 cap1,.string d.val])):=by unfold Hid;rw[HE.out];exact CellsN.snoc HNR.out HC.out
    have HB3:=zh (((HBk.out.alloc (by omega) _).alloc (by simp;omega) _).grown hg1 (by simp;omega) (fun g hg'=>((hrow.out (.cells #[] 0) (.cells #[] 0)).lt g hg').1));clear hown1 hg1;go_wp2_with fail;go_roundw;case rel=>exact⟨k+1,_,by omega,by go_num,HO3.out,HC3.out,HB3.out⟩
    case measure=>simp[intOf];omega
  · obtain rfl:k=n:=by omega
    have HE:Hid ((fs.take k).filter P=OUT):=by unfold Hid;rw[HRN.out,List.take_of_length_le (by rw[Hlen.out];omega)]
    go_wp2_with fail;go_ret;have h1:=HO.out;have h2:=HC.out;rw[HE.out]at h1 h2;exact⟨_,cs,rfl,Own.own_base h1 (by omega),h2,HBw.out⟩
end Go.Proofs.YtgmaamnofhmecaaGreatDoor
