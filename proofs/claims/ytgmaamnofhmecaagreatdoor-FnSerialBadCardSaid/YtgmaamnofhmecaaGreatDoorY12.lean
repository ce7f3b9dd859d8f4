import Derived.Test.YtgmaamnofhmecaaGreatDoorY00
import Derived.Test.YtgmaamnofhmecaaGreatDoorY01
import Derived.Test.YtgmaamnofhmecaaGreatDoorY11
import Derived.Test.YtgmaamnofhmecaaGreatDoorProg
import Derived.Test.YtgmaamnofhmecaaGreatDoorY09
import Derived.Deep.AppendLies
import Derived.Laws.OwnMore
import Derived.Maps.AppendAt
import Derived.OwnWalk
import Derived.RegionTactic
import Derived.Deep.RegionLaw
import Derived.Ground.GgwProg
import Derived.Ground.Names2Prog
import Derived.Ground.SlgnProg
import Derived.Shelf.GgClosure.StringsIndexFunc
import Derived.Shelf.GgClosure.StringsIndexFuncTop
import Derived.Shelf.LaysM
import Derived.Shelf.Slices.Cells
import Derived.Shelf.Slices.Clone
import Derived.Shelf.Slices.CompactS
import Derived.Shelf.Slices.Empties2
import Derived.Shelf.Slices.Equal
import Derived.Shelf.Slices.In.SortNone
import Derived.Shelf.Slices.Turned
import Derived.Shelf.SlicesE.Clone
import Derived.Shelf.SlicesG.SearchI
import Derived.Shelf.Small.Bits
import Derived.Shelf.Small.Strs
import Derived.Shelf.Small.Utf8
import Derived.Shelf.Small.Wraps
import Derived.Shelf.Sort.Plain
import Derived.Shelf.Strconv.Itoa0
import Derived.Shelf.Strconv.Itoa1
import Derived.Shelf.Strconv.Itoa2
import Derived.Shelf.Strconv.Itoa3
import Derived.Shelf.Strconv.Itoa4
import Derived.Shelf.Strings.AsciiSet
import Derived.Shelf.Strings.Builder1
import Derived.Shelf.Strings.Builder2
import Derived.Shelf.Strings.Count
import Derived.Shelf.Strings.Explode
import Derived.Shelf.Strings.FuncGrows
import Derived.Shelf.Strings.OnBuilder
import Derived.Shelf.Strings.Prefix
import Derived.Shelf.Strings.Replace
import Derived.Shelf.Strings.RuneCount
import Derived.Shelf.Strings.Runes
import Derived.Shelf.Strings.Search1
import Derived.Shelf.Strings.Search2
import Derived.Shelf.Strings.Search3
import Derived.Shelf.Strings.Shaped
import Derived.Shelf.Strings.Split
import Derived.Shelf.Strings.SplitShaped
import Derived.Shelf.Strings.Trim
import Derived.Shelf.Unicode.Decode
import Derived.Shelf.Unicode.DecodeAny
import Derived.Shelf.Unicode.DecodeLast
import Derived.Shelf.Unicode.DecodeSlow
import Derived.Shelf.Utf8.RuneCount
import Derived.Lib.OwnBridge
import Derived.LoopIn
import Derived.LoopNIn
import Derived.OwnWalkIn
import Derived.RangeFuncBox
import Derived.RangeFuncLeaves
import Derived.Shelf.Abstract
import Derived.TacticsInMore
import Derived.WalkKit
import Derived.Shelf.SlIter.Collect
import Derived.Lib.AppendIntMem
import Derived.Lib.IndexAny
import Derived.Lib.TrimUEq
set_option linter.unusedSimpArgs false
namespace Go.Proofs.YtgmaamnofhmecaaGreatDoor
open Go.RowKit
theorem zBN (a:Addr) (n:Nat):(a.add n).block=a.block:=by unfold Addr.add;split <;> rfl
theorem zHS (a:Addr) (i j:Nat):(a.add i).add j=a.add (i+j):=by
 unfold Addr.add;by_cases hi:i=0 <;> by_cases hj:j=0 <;> simp[hi,hj,Nat.add_assoc]
def Reads (w:World) (B size:Nat) (A:Option Addr) (n:Nat) (xs:List Value):Prop :=
 xs.length=n*size∧(0<n→∃ad,A=some ad∧ad.block<B∧∀j u,xs[j]?=some u→w.cell? (ad.add j)=some u)
section
variable {w w':World} {B B' size n:Nat} {A:Option Addr} {xs:List Value}
theorem Reads.keep (h:Reads w B size A n xs) (hk:∀p:Addr,p.block<B→w'.cell? p=w.cell? p):Reads w' B size A n xs :=
 ⟨h.1,fun hn=>by
   obtain⟨ad,e,hb,hc⟩:=h.2 hn
   exact⟨ad,e,hb,fun j u hu=>(hk _ (by rw[zBN];exact hb)).trans (hc j u hu)⟩⟩
theorem Reads.below (h:Reads w B size A n xs) (hb:Below B w w'):Reads w' B size A n xs:=h.keep fun _ hp=>hb.cell hp
theorem Reads.alloc (h:Reads w B size A n xs) (hB:B≤w.heap.size) (o:Obj):Reads (w.alloc o) B size A n xs:=h.keep fun p hp=>World.cell?_alloc_lt w o p (by omega)
theorem Reads.grown (h:Reads w B size A n xs) {row:Option Nat} (hg:w.grownBy w' row) (hB:B≤w.heap.size) (hr:∀g,row=some g→B≤g):Reads w' B size A n xs :=
 h.keep fun p hp=>World.cell?_of_block (hg.block p.block (by omega) (fun e=>by have:=hr _ e.symm;omega))
theorem Reads.cut (h:Reads w B size A n xs) {k cap:Nat} (hk:k≤n) (hc:n≤cap) :
 Reads w B size (if cap=k then A else A.map (·.add (k*size))) (n-k) (xs.drop (k*size)):=by
 refine⟨by rw[List.length_drop,h.1,Nat.sub_mul],fun hn=>?_⟩;obtain⟨ad,rfl,hb,hcell⟩:=h.2 (by omega);rw[if_neg (by omega)];refine⟨ad.add (k*size),rfl,by rw[zBN];exact hb,fun j u hu=>?_⟩;rw[zHS];exact hcell _ u (by rw[←hu,List.getElem?_drop])
end
section
variable {P:Program} (w:World)
theorem zBw (base:Nat) (t ty e:TypeId) (i:TypeInfo) (size:Nat) (ht:P.underlying t=some (.slice e)) (hi:P.info? e=some i)
 (v:Value) (n:Nat) (xs:List Value) (hown:w.ownsRow base e size v n xs) (c:Nat):(Builtin.append_ #[t,t] ty #[v,.slice none 0 c]).run P w=.ok v w:=by
 rcases hown.2 with ⟨rfl,rfl⟩ | ⟨g,cap,cur,rfl,_,_,hnc,_⟩
 · simp[Builtin.append_,run_underlying ht,sizeOf,typeInfo,hi,Builtin.lenOf,Builtin.firstCells]
 · simp[Builtin.append_,run_underlying ht,sizeOf,typeInfo,hi,Builtin.lenOf,Builtin.firstCells,hnc,storeCells]
theorem zDn (base:Nat) (t ty e:TypeId) (i:TypeInfo) (z:Value) (size bytes:Nat) (ht:P.underlying t=some (.slice e)) (hi:P.info? e=some i) (hz:i.zero=some z)
 (hsize:i.size=size) (hby:i.bytes=bytes) (hzs:z.cells.size=size) (hsz:0<size)
 (v:Value) (n:Nat) (xs:List Value) (hown:w.ownsRow base e size v n xs)
 (B:Nat) (A:Option Addr) (m c:Nat) (news:List Value) (hr:Reads w B size A m news) (h1:∀u∈news,u.oneCell'=true)
 (h63:n+m≤maxLen) (hbytes:(n+m)*bytes≤140737488355328) (hbase:base≤w.heap.size) :
 ∃v' w',(Builtin.append_ #[t,t] ty #[v,.slice A m c]).run P w=.ok v' w'∧w'.ownsRow base e size v' (n+m) (xs++news)∧w.grownBy w' v.ownBlock ∧
  (v'.ownBlock=v.ownBlock∨v'.ownBlock=some w.heap.size):=by
 rcases A with _ | ad
 · have hm:m=0:=by
    rcases Nat.eq_zero_or_pos m with h0 | h0
    · exact h0
    · obtain⟨ad,h,_⟩:=hr.2 h0;cases h
   subst hm;have hn:news=[]:=List.eq_nil_of_length_eq_zero (by simpa using hr.1);subst hn;exact⟨v,w,zBw w base t ty e i size ht hi v n xs hown c,by simpa using hown,World.grownBy.refl w _,.inl rfl⟩
 · have hcells:∀j u,news[j]?=some u→w.cell? (ad.add j)=some u:=by
    intro j u hu;rcases Nat.eq_zero_or_pos m with h0 | h0
    · subst h0;have hn:news=[]:=List.eq_nil_of_length_eq_zero (by simpa using hr.1);subst hn;simp at hu
    · obtain⟨ad',h,_,hc⟩:=hr.2 h0;injection h with h;subst h;exact hc j u hu
   obtain⟨v',w',hrun,h2,h3,_,h5⟩:=run_append_own_at (P:=P) w base t ty e i z size bytes ht hi hz hsize hby hzs hsz v n xs hown ad m c news hr.1 hcells h1 h63 hbytes hbase;exact⟨v',w',hrun,h2,h3,h5⟩
theorem zEa {o:Oper} {a:Act} {K:Act→World→Prop} {Q:Exit→Act→World→Prop} (s x:Operand) (t:TypeId)
 (ho:o.op=.call { callee:=.builtin .append,args:=#[s,x],argTypes:=#[t,t] })
 (base:Nat) (e:TypeId) (i:TypeInfo) (z:Value) (size bytes:Nat) (ht:P.underlying t=some (.slice e)) (hi:P.info? e=some i) (hz:i.zero=some z)
 (hsize:i.size=size) (hby:i.bytes=bytes) (hzs:z.cells.size=size) (hsz:0<size)
 (v:Value) (n:Nat) (xs:List Value) (hs:a.eval s=v) (hown:w.ownsRow base e size v n xs)
 (B:Nat) (A:Option Addr) (m c:Nat) (news:List Value) (hx:a.eval x=.slice A m c) (hr:Reads w B size A m news) (h1:∀u∈news,u.oneCell'=true)
 (h63:n+m≤maxLen) (hbytes:(n+m)*bytes≤140737488355328) (hbase:base≤w.heap.size)
 (h:∀v' w',w'.ownsRow base e size v' (n+m) (xs++news)→w.grownBy w' v.ownBlock→(v'.ownBlock=v.ownBlock∨v'.ownBlock=some w.heap.size)→K (a.put o.dst v') w'):o.wp P a w K Q:=by
 obtain⟨v',w',hrun,h2,h3,h4⟩:=zDn (P:=P) w base t o.type e i z size bytes ht hi hz hsize hby hzs hsz v n xs hown B A m c news hr h1 h63 hbytes hbase;unfold Oper.wp execOp;simp only[ho,resolve,invoke,builtin,Sem.run_bind,Sem.run_pure,Result.andThen_ok,List.map_toArray,List.map_cons,List.map_nil,hs,hx,hrun];exact h v' w' h2 h3 h4
theorem uF {ops:Array Oper} {rest:List Oper} {o:Oper} {a:Act} {Q:Exit→Act→World→Prop} (hgd:o.guard=none) (s x:Operand) (t:TypeId)
 (ho:o.op=.call { callee:=.builtin .append,args:=#[s,x],argTypes:=#[t,t] })
 (base:Nat) (e:TypeId) (i:TypeInfo) (z:Value) (size bytes:Nat) (ht:P.underlying t=some (.slice e)) (hi:P.info? e=some i) (hz:i.zero=some z)
 (hsize:i.size=size) (hby:i.bytes=bytes) (hzs:z.cells.size=size) (hsz:0<size)
 (v:Value) (n:Nat) (xs:List Value) (hs:a.eval s=v) (hown:w.ownsRow base e size v n xs)
 (B:Nat) (A:Option Addr) (m c:Nat) (news:List Value) (hx:a.eval x=.slice A m c) (hr:Reads w B size A m news) (h1:∀u∈news,u.oneCell'=true)
 (h63:n+m≤maxLen) (hbytes:(n+m)*bytes≤140737488355328) (hbase:base≤w.heap.size)
 (h:∀v' w',w'.ownsRow base e size v' (n+m) (xs++news)→w.grownBy w' v.ownBlock→(v'.ownBlock=v.ownBlock∨v'.ownBlock=some w.heap.size)→wpList P ops Q rest (a.put o.dst v') w'):wpList P ops Q (o::rest) a w :=
 wpList_plain hgd fun _ hK=>zEa w s x t ho base e i z size bytes ht hi hz hsize hby hzs hsz v n xs hs hown B A m c news hx hr h1 h63 hbytes hbase fun v' w' h2 h3 h4=>hK _ _ (h v' w' h2 h3 h4)
end
theorem zDi {w:World} {B n:Nat} {A:Option Addr} {ss:List ByteArray} (h:Strs w B A n ss):Reads w B 1 A n (ss.map Value.string) :=
 ⟨by simp[h.1],fun hn=>by
   obtain⟨b,o,e,hb,hc⟩:=h.2 hn;refine⟨⟨b,o,none⟩,e,hb,fun j u hu=>?_⟩;rw[List.getElem?_map]at hu
   have hj:j<ss.length:=by
    rcases Nat.lt_or_ge j ss.length with h1 | h1
    · exact h1
    · rw[List.getElem?_eq_none h1]at hu;cases hu
   rw[List.getElem?_eq_getElem hj]at hu;have hu':u=.string ss[j]:=by simpa using hu.symm
   subst hu';have:=hc j (by rw[←h.1];exact hj);rw[List.getD_eq_getElem?_getD,List.getElem?_eq_getElem hj]at this;unfold Addr.add;split
   · rename_i h0;subst h0;simpa using this
   · simpa using this⟩
theorem zEQ {w0 w w':World} {base e size n:Nat} {v:Value} {xs:List Value} (hb:Below w0.heap.size w0 w) (ho:w.ownsRow base e size v n xs) (hbase:w0.heap.size≤base) (hg:w.grownBy w' v.ownBlock):Below w0.heap.size w0 w' :=
 hb.grown hg hb.size (fun g hg'=>by have:=(ho.lt g hg').1;omega)
end Go.Proofs.YtgmaamnofhmecaaGreatDoor
namespace Go.Proofs.YtgmaamnofhmecaaGreatDoor
open Go.RowKit
theorem uL (w:World) (cs:Array Value) (t:TypeId):∀j u,cs.toList[j]?=some u→(w.alloc (.cells cs t)).cell? ((⟨w.heap.size,0,none⟩:Addr).add j)=some u:=by
 intro j u hu;have h:=cell_of_row _ w.heap.size j cs t (0,0) (heap_alloc_new w (.cells cs t));have hu':cs[j]?=some u:=by rw[←Array.getElem?_toList];exact hu
 unfold Addr.add;split
 · rename_i h0;subst h0;rw[h,hu']
 · rw[show(⟨w.heap.size,0+j,none⟩:Addr)=⟨w.heap.size,j,none⟩ from by simp,h,hu']
theorem zJx {s:ByteArray} {l:List UInt8} (h:s≠⟨l.toArray⟩):(s.toList==l)=false:=by
 have:=zG0 h;simpa [yA] using this
def CellsN (w:World):List NodeD→List Value→Prop
 | [],cs=>cs=[]
 | d::r,cs=>∃c0 c1 c2 cs',cs=c0::c1::c2::cs'∧NodeR w w.heap.size c0 c1 c2 d∧CellsN w r cs'
theorem CellsN.snoc {w:World} {d:NodeD} {c0 c1 c2:Value} (hd:NodeR w w.heap.size c0 c1 c2 d):∀{fs:List NodeD} {cs:List Value},CellsN w fs cs→CellsN w (fs++[d]) (cs++[c0,c1,c2])
 | [],cs,h=>by have h:cs=[]:=h;subst h;exact⟨c0,c1,c2,[],rfl,hd,rfl⟩
 | f::r,cs,h=>by obtain⟨a0,a1,a2,cs',rfl,ha,hr⟩:=h;exact⟨a0,a1,a2,cs'++[c0,c1,c2],rfl,ha,CellsN.snoc hd hr⟩
theorem CellsN.at {w:World}:∀{fs:List NodeD} {cs:List Value} (j:Nat),CellsN w fs cs→j<fs.length→∃c0 c1 c2,cs[j*3]?=some c0∧cs[j*3+1]?=some c1∧cs[j*3+2]?=some c2∧NodeR w w.heap.size c0 c1 c2 (fs.getD j default)
 | [],_,j,_,hj=>by simp at hj
 | f::r,cs,0,h,_=>by obtain⟨a0,a1,a2,cs',rfl,ha,_⟩:=h;exact⟨a0,a1,a2,rfl,rfl,rfl,ha⟩
 | f::r,cs,j+1,h,hj=>by
   obtain⟨a0,a1,a2,cs',rfl,_,hr⟩:=h;obtain⟨b0,b1,b2,e0,e1,e2,hb⟩:=CellsN.at j hr (by simpa using hj);refine⟨b0,b1,b2,?_,?_,?_,by simpa using hb⟩
   · rw[show(j+1)*3=j*3+3 by omega];simpa using e0
   · rw[show(j+1)*3+1=(j*3+1)+3 by omega];simpa using e1
   · rw[show(j+1)*3+2=(j*3+2)+3 by omega];simpa using e2
theorem yN {w W:World} {base n:Nat} {v:Value} {fs:List NodeD} {cs:List Value} (h:W.ownsRow base 102 3 v n cs) (hn:fs.length=n) (hc:CellsN w fs cs) (hb:Below w.heap.size w W):∃A cap,v=.slice A n cap∧n≤cap∧Nodes W W.heap.size A n fs:=by
 obtain⟨A,cap,rfl,hcap,_,hA⟩:=Own.own_slice h;refine⟨A,cap,rfl,hcap,hn,fun hp=>?_⟩;obtain⟨g,rfl,hg,_⟩:=hA hp;refine⟨g,0,rfl,hg,fun j hj=>?_⟩;obtain⟨c0,c1,c2,e0,e1,e2,hr⟩:=CellsN.at j hc (by omega);refine⟨c0,c1,c2,?_,?_,?_,hr.later hb⟩
 · rw[Nat.zero_add];exact Own.own_cell h _ _ (by omega) e0
 · rw[Nat.zero_add];exact Own.own_cell h _ _ (by omega) e1
 · rw[Nat.zero_add];exact Own.own_cell h _ _ (by omega) e2
theorem zAC {α:Type} [Inhabited α] (p:α→Bool) (l:List α) (k:Nat) (h:k<l.length):(l.take (k+1)).filter p=if p (l.getD k default)=true then (l.take k).filter p++[l.getD k default] else (l.take k).filter p:=by
 rw[List.take_succ_eq_append_getElem h,List.filter_append,List.getD_eq_getElem?_getD,List.getElem?_eq_getElem h,Option.getD_some];by_cases e:p l[k]=true
 · rw[if_pos e];simp[e]
 · rw[if_neg e];simp[e]
theorem zHC {α:Type} (p:α→Bool) (l:List α) (k:Nat):((l.take k).filter p).length≤k:=by
 have:=List.length_filter_le p (l.take k);rw[List.length_take]at this;omega
end Go.Proofs.YtgmaamnofhmecaaGreatDoor
namespace Go.Proofs
open Go.Shelf
def Tryz.laysNm216_ren:Go.Shelf.Ren:=⟨fun | 16=>169 | n=>n,fun | 24=>27 | 9=>9 | 4=>4 | n=>n,fun | n=>n⟩
theorem Tryz.laysNm216:Go.Proofs.Lays2.n16 Tryz.prog Tryz.laysNm216_ren:={
 mixed:=by kernel_rfl
 f16:=Tryz.func169.trans (congrArg some (by kernel_rfl))
 t4:=Tryz.underlying4
 a4:=Tryz.isAgg4
 z4:=Tryz.sizeOf4
 v4:=Tryz.zeroValue4
 t9:=Tryz.underlying9
 a9:=Tryz.isAgg9
 z9:=Tryz.sizeOf9
 v9:=Tryz.zeroValue9
 t24:=Tryz.underlying27
 a24:=Tryz.isAgg27
 z24:=Tryz.sizeOf27
 v24:=Tryz.zeroValue27
 i9:=by kernel_rfl }
open Go.RowKit Go.Lib in
theorem Tryz.slices_Clone_string (b off n c:Nat) (zs:List ByteArray) (w:World) (hz:n≤zs.length) (hbig:n*16≤140737488355328) (hc:∀j,j<zs.length→w.cell? ⟨b,off+j,none⟩=some (.string (zs.getD j ByteArray.empty))) :
 Calls Tryz.prog 169 #[.slice (some ⟨b,off,none⟩) n c] w fun e w'=>∃v',e=.returned v'∧w'.ownsRow w.heap.size 9 1 v' n ((zs.take n).map (Value.string))∧v'≠.slice none 0 0∧Below w.heap.size w w':=Any.slices_Clone_string Tryz.laysNm216 b off n c zs w hz hbig hc
open Go.RowKit Go.Lib in
theorem Tryz.slices_Clone_string_nil (n c:Nat) (w:World) :
 Calls Tryz.prog 169 #[.slice none n c] w fun e w'=>e=.returned (.slice none 0 0)∧w'=w:=Any.slices_Clone_string_nil Tryz.laysNm216 n c w
open Go.RowKit Go.Lib in
theorem Tryz.slices_Clone_string_zero (a:Addr) (c:Nat) (w:World) :
 Calls Tryz.prog 169 #[.slice (some a) 0 c] w fun e w'=>∃v',e=.returned v'∧w'.ownsRow w.heap.size 9 1 v' 0 []∧v'≠.slice none 0 0∧Below w.heap.size w w':=Any.slices_Clone_string_zero Tryz.laysNm216 a c w
end Go.Proofs
namespace Go.Proofs.YtgmaamnofhmecaaGreatDoor
open Go.RowKit Go.Shelf Go.Proofs.YtgmaamnofhmecaaGreatDoor.Own
attribute [local go_sem] Oper.semAt_some
end Go.Proofs.YtgmaamnofhmecaaGreatDoor
namespace Go.Proofs.YtgmaamnofhmecaaGreatDoor
open Go.RowKit Go.Shelf Go.Proofs.YtgmaamnofhmecaaGreatDoor.Own
attribute [local go_sem] Oper.semAt_some
end Go.Proofs.YtgmaamnofhmecaaGreatDoor
namespace Go.Proofs.YtgmaamnofhmecaaGreatDoor
open Go.RowKit
theorem zDA {α:Type} (p:α→Bool):∀(l:List α) (k:Nat),decide (0≤xJ p l k)=l.any p
 | [],k=>by simp[xJ]
 | d::r,k=>by
   unfold xJ;rw[List.any_cons,←zDA p r (k+1)];by_cases h:p d=true
   · simp[h]
   · simp[h]
def zJX (g:Nat) (lb:Array Value) (p:NodeD→Bool) (fs:List NodeD) (w:World):Prop :=
 ∀d∈fs,∀c0 c1 c2 W,Below w.heap.size w W→NodeR W W.heap.size c0 c1 c2 d→Calls Tryz.prog g (#[.agg #[c0,c1,c2]]++lb) W fun e w'=>e=.returned (.bool (p d))∧Below W.heap.size W w'
set_option maxHeartbeats 1000000 in
theorem zBR (g:Nat) (lb:Array Value) (p:NodeD→Bool) (A:Option Addr) (n c:Nat) (fs:List NodeD) (w:World) (h:Nodes w w.heap.size A n fs) (hn:n≤1048576)
 (eg:∀args w,(callFunc g args).run Tryz.prog w=.ok (.enter g args) w) (hg:zJX g lb p fs w) :
 Calls Tryz.prog 245 #[.slice A n c,.func (.func g) #[] lb] w fun e w'=>e=.returned (.int .i64 (xJ p fs 0))∧Below w.heap.size w w':=by
 have Hh:=Lib.hid h;have Hlen:=Lib.hid h.1;have Hg:=Lib.hid hg;clear h hg;go_enter Tryz.func245,Tryz.ntmps245;go_wp2_with fail;go_loopw [8] (fun i wr=>∃k:Nat,k≤n∧i=.int .i64 k∧Below w.heap.size w wr∧Hid (xJ p fs 0=xJ p (fs.drop k) k)) (fun i _=>n-(intOf i).toNat);case atStart=>exact⟨0,Nat.zero_le _,rfl,Below.refl _ _,rfl⟩
 case round =>
  obtain⟨k,hk,rfl,hb,hS⟩:=hrel;have HB:=Lib.hid hb;clear hb;by_cases hlt:k<n
  · obtain⟨b,o,rfl,hbB,hcell⟩:=(Hh.out.later HB.out).2 (by omega);obtain⟨c0,c1,c2,k0,k1,k2,hr⟩:=hcell k hlt;clear hcell;have hl:k<fs.length:=by rw[Hlen.out];exact hlt
    have HS:=Lib.hid (zY0 p fs k hl);have HK:=Lib.hid (Hg.out (fs.getD k default) (zE0 fs k hl) c0 c1 c2 wr HB.out hr);clear hl hr;generalize fs.getD k default=s at *;generalize hx:p s=x at *;have HX:=Lib.hid hx;clear hx;go_wp2_with fail;refine HK.out.mono ?_;rintro e w' ⟨rfl,hb1⟩;have HB1:=Lib.hid (HB.out.later hb1);clear hb1;cases x
    · go_wp2_with fail;go_roundw;case rel=>exact⟨k+1,by omega,by go_num,HB1.out,by unfold Hid;rw[hS.out,HS.out];rfl⟩
      case measure=>simp[intOf];omega
    · go_wp2_with fail;go_ret;exact⟨xB (by rw[hS.out,HS.out];rfl),HB1.out⟩
  · have HE:Hid (xJ p fs 0=-1):=by unfold Hid;rw[hS.out,List.drop_of_length_le (by rw[Hlen.out];omega)];rfl
    go_wp2_with fail;go_ret;exact⟨xB HE.out.symm,HB.out⟩
end Go.Proofs.YtgmaamnofhmecaaGreatDoor
