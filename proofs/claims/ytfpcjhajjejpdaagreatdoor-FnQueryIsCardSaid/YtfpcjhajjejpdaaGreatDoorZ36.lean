import Derived.Test.YtfpcjhajjejpdaaGreatDoorZ35
import Derived.Test.YtfpcjhajjejpdaaGreatDoorZ25
import Derived.Deep.RegionHeld3
namespace Go.Proofs.YtfpcjhajjejpdaaGreatDoor
open Go.RowKit
set_option linter.unusedVariables false
theorem zGR (A:Option Addr) (n c:Nat) (w:World) (h:BytesR w w.heap.size A n) (hn:n≤1048576) :
 Calls Tryz.prog 37 #[.slice A n c] w fun e w'=>e=.returned (.pointer (some ⟨w.heap.size,0,none⟩))∧SrcR w' w.heap.size 0∧Below w.heap.size w w':=by
 have H:=Lib.hid h;clear h;go_enter Tryz.func37,Tryz.ntmps37;go_wp2_with fail;go_ret;exact⟨rfl,⟨A,n,c,0,0,zD0 rfl,H.out.later (fun i hi=>Below.heap_alloc _ _ _ hi),Nat.le_refl _,hn,by omega⟩,Below.new _ _⟩
theorem Drawn.below {p K B:Nat} {a b w:World} (h0:Below B w a) (h:Drawn p K a b) (hp:B≤p) (hB:B≤w.heap.size):Below B w b:=Own.Chg.below h0 h.chg (fun g e=>by rw[e];exact hp) hB
theorem BytesR.later' {w w':World} {A:Option Addr} {n:Nat} (h:BytesR w w.heap.size A n) (hb:Below w.heap.size w w'):BytesR w' w'.heap.size A n:=fun hn=>by
 obtain⟨b,o,e,hb1,hc⟩:=h hn;refine⟨b,o,e,Nat.lt_of_lt_of_le hb1 hb.size,fun j hj=>?_⟩;obtain⟨x,h1,h2⟩:=hc j hj;exact⟨x,cell_later hb h1,h2⟩
section
variable {P:Nat→Prop} {X Y:World} {bs:Nat} (k:Own.Chg P X Y) (hP:∀g,P g→g<bs)
include k hP
theorem zFD {v:Value} {ss:List ByteArray} (h:Own.SubO X bs v ss):Own.SubO Y bs v ss:=Own.own_chg h k (Own.inP_of h fun g h1 _ hp=>by have:=hP g hp;omega)
theorem zDR {v:Value} {fs:List NodeD} (h:NodesO X bs v fs):NodesO Y bs v fs:=by
 obtain⟨vs,h⟩:=h;obtain⟨h1,h2⟩:=Own.OwnL.inP h (P:=fun g=>¬P g) (fun g h1 _ hp=>by have:=hP g hp;omega);exact⟨vs,Own.OwnL.chg h k h1 h2⟩
theorem zGf {c0 c1 c2 c3:Value} {d:TableD} (h:TabO X bs c0 c1 c2 c3 d):TabO Y bs c0 c1 c2 c3 d:=⟨h.nm,h.gl,zFD k hP h.cols,zFD k hP h.idx,h.ap⟩
end
end Go.Proofs.YtfpcjhajjejpdaaGreatDoor
namespace Go.Proofs.YtfpcjhajjejpdaaGreatDoor
open Go.RowKit
set_option linter.unusedVariables false
def yX:List CondD→List Value
 | []=>[]
 | d::r=>.string d.col::.int .i64 d.op::.string d.val::yX r
theorem zFu:∀(fs:List CondD) (d:CondD),yX (fs++[d])=yX fs++[.string d.col,.int .i64 d.op,.string d.val]
 | [],d=>rfl
 | e::r,d=>by simp only[List.cons_append,yX,zFu r d]
theorem zHi:∀(fs:List CondD) (j:Nat),j<fs.length→(yX fs)[j*3]?=some (.string (fs.getD j default).col)∧(yX fs)[j*3+1]?=some (.int .i64 (fs.getD j default).op)∧(yX fs)[j*3+2]?=some (.string (fs.getD j default).val)
 | [],_,h=>by simp at h
 | d::r,0,_=>by simp[yX]
 | d::r,j+1,h=>by have ih:=zHi r j (by simpa using h);rw[show(j+1)*3=j*3+1+1+1 by omega];simpa [yX] using ih
def CondO (w:World) (base:Nat) (v:Value) (fs:List CondD):Prop:=w.ownsRow base 44 3 v fs.length (yX fs)
theorem zFm:(Tryz.prog.info? 44).map (fun i=>(i.zero,i.size,i.bytes))=some (some (.agg #[.string .empty,.int .i64 0,.string .empty]),3,40):=by kernel_rfl
section
variable {w w':World} {bs bs' p K K':Nat} {v:Value} {fs:List CondD}
theorem CondO.later (h:CondO w bs v fs) (hb:Below w.heap.size w w'):CondO w' bs v fs:=Own.own_later h hb
theorem CondO.base (h:CondO w bs' v fs) (hb:bs≤bs'):CondO w bs v fs:=Own.own_base h hb
theorem CondO.drawn (h:CondO w bs v fs) (hs:SrcR w p K) (hd:Drawn p K' w w'):CondO w' bs v fs:=Own.own_chg h hd.chg (hs.not_own h (by decide))
theorem CondO.setBlk {g tp i:Nat} {u:Value} {cs:Array Value} (h:CondO w bs v fs) (hB:Blk w g tp cs) (h2:44≠tp):CondO (w.setCell ⟨g,i,none⟩ u) bs v fs:=World.ownsRow.kept h (row:=some g) (Own.grown_set _ _ _ _) (.inr (Own.own_blk_ne h hB h2))
theorem CondO.nil (w:World) (base:Nat):CondO w base (.slice none 0 0) []:=World.ownsRow_nil _ _ _ _
theorem CondO.reads (h:CondO w bs v fs):∃A cap,v=.slice A fs.length cap∧fs.length≤cap∧Conds w w.heap.size A fs.length fs:=by
 obtain⟨A,cap,rfl,hc,_,hA⟩:=Own.own_slice h;refine⟨A,cap,rfl,hc,rfl,fun hn=>?_⟩;obtain⟨g,rfl,hg,_⟩:=hA hn;refine⟨g,0,rfl,hg,fun j hj=>?_⟩;obtain⟨h0,h1,h2⟩:=zHi fs j hj;refine⟨_,_,_,?_,?_,?_,rfl,rfl,rfl⟩
 · rw[Nat.zero_add];exact Own.own_cell h (j*3) _ (by omega) h0
 · rw[Nat.zero_add];exact Own.own_cell h (j*3+1) _ (by omega) h1
 · rw[Nat.zero_add];exact Own.own_cell h (j*3+2) _ (by omega) h2
end
structure QryO (w:World) (base:Nat) (c0 c1 c2 c3 c4 c5:Value) (d:QueryD):Prop where
 tb:c0=.string d.table
 cols:Own.SubO w base c1 d.cols
 wher:CondO w base c2 d.wher
 ord:c3=.string d.order
 desc:c4=.bool d.desc
 lim:c5=.int .i64 d.limit
section
variable {w w':World} {bs bs' p K K':Nat} {c0 c1 c2 c3 c4 c5:Value} {d:QueryD}
theorem QryO.later (h:QryO w bs c0 c1 c2 c3 c4 c5 d) (hb:Below w.heap.size w w'):QryO w' bs c0 c1 c2 c3 c4 c5 d:=⟨h.tb,Own.own_later h.cols hb,h.wher.later hb,h.ord,h.desc,h.lim⟩
theorem QryO.base (h:QryO w bs' c0 c1 c2 c3 c4 c5 d) (hb:bs≤bs'):QryO w bs c0 c1 c2 c3 c4 c5 d:=⟨h.tb,Own.own_base h.cols hb,h.wher.base hb,h.ord,h.desc,h.lim⟩
theorem QryO.drawn (h:QryO w bs c0 c1 c2 c3 c4 c5 d) (hs:SrcR w p K) (hd:Drawn p K' w w'):QryO w' bs c0 c1 c2 c3 c4 c5 d:=⟨h.tb,SubO.drawn h.cols hs hd,h.wher.drawn hs hd,h.ord,h.desc,h.lim⟩
theorem QryO.setBlk {g tp i:Nat} {u:Value} {cs:Array Value} (h:QryO w bs c0 c1 c2 c3 c4 c5 d) (hB:Blk w g tp cs) (h2:9≠tp) (h3:44≠tp):QryO (w.setCell ⟨g,i,none⟩ u) bs c0 c1 c2 c3 c4 c5 d:=⟨h.tb,World.ownsRow.kept h.cols (row:=some g) (Own.grown_set _ _ _ _) (.inr (Own.own_blk_ne h.cols hB h2)),h.wher.setBlk hB h3,h.ord,h.desc,h.lim⟩
end
def zKk (n m:Nat) (d:QueryD):Prop:=d.table.size≤16∧(d.cols.length≤n∧∀s∈d.cols,s.size≤16)∧(d.wher.length≤m∧∀x∈d.wher,x.col.size≤16∧x.val.size≤16)∧d.order.size≤16
theorem zGe {n m:Nat} {d:QueryD} (h:zKk n m d) (hn:n≤1000) (hm:m≤1000):d.small :=
 ⟨Nat.le_trans h.1 (by decide),⟨Nat.le_trans (Nat.le_trans h.2.1.1 hn) (by decide),fun s hs=>Nat.le_trans (h.2.1.2 s hs) (by decide)⟩,⟨Nat.le_trans (Nat.le_trans h.2.2.1.1 hm) (by decide),fun x hx=>⟨Nat.le_trans (h.2.2.1.2 x hx).1 (by decide),Nat.le_trans (h.2.2.1.2 x hx).2 (by decide)⟩⟩,Nat.le_trans h.2.2.2 (by decide)⟩
def zJh (p K n m:Nat) (w:World) (e:Ending) (w':World):Prop:=∃c0 c1 c2 c3 c4 c5 d,e=.returned (.agg #[c0,c1,c2,c3,c4,c5])∧QryO w' w.heap.size c0 c1 c2 c3 c4 c5 d∧zKk n m d∧Drawn p K w w'
structure QSt (p K h:Nat) (w:World) (c0 c1 c2 c3 c4 c5:Value) (d:QueryD) (b0 b1 b2 b3:Value) (X:World):Prop where
 own:QryO X h c0 c1 c2 c3 c4 c5 d
 tab:Blk X h 29 #[b0,b1,b2,b3]
 res:Blk X (h+1) 32 #[.string ⟨#[]⟩,.slice none 0 0,.slice none 0 0,.string ⟨#[]⟩,.bool false,.int .i64 0]
 draw:Drawn p K w X
section
variable {p K K' h q:Nat} {w X Y:World} {c0 c1 c2 c3 c4 c5 b0 b1 b2 b3:Value} {d:QueryD}
theorem QSt.later (s:QSt p K h w c0 c1 c2 c3 c4 c5 d b0 b1 b2 b3 X) (hb:Below X.heap.size X Y):QSt p K h w c0 c1 c2 c3 c4 c5 d b0 b1 b2 b3 Y:=⟨s.own.later hb,s.tab.later hb s.tab.lt,s.res.later hb s.res.lt,s.draw.later hb⟩
theorem QSt.drawn (s:QSt p K h w c0 c1 c2 c3 c4 c5 d b0 b1 b2 b3 X) (hd:Drawn p K' X Y) (hp:p<h):QSt p K' h w c0 c1 c2 c3 c4 c5 d b0 b1 b2 b3 Y:=⟨s.own.drawn s.draw.src hd,Blk.drawn s.tab hd (by omega),Blk.drawn s.res hd (by omega),s.draw.trans hd⟩
theorem QSt.mono (s:QSt p K h w c0 c1 c2 c3 c4 c5 d b0 b1 b2 b3 X) (hK:K≤K'):QSt p K' h w c0 c1 c2 c3 c4 c5 d b0 b1 b2 b3 X:=⟨s.own,s.tab,s.res,s.draw.mono hK⟩
theorem QSt.side (s:QSt p K h w c0 c1 c2 c3 c4 c5 d b0 b1 b2 b3 X) {cs:Array Value} (hb:Blk X q 32 cs) (hq:h+1<q) (hp:p<w.heap.size) (hw:w.heap.size≤h) (i:Nat) (u:Value):QSt p K h w c0 c1 c2 c3 c4 c5 d b0 b1 b2 b3 (X.setCell ⟨q,i,none⟩ u) :=
 ⟨s.own.setBlk hb (by decide) (by decide),s.tab.far (p:=⟨q,i,none⟩) (show h≠q by omega) u,s.res.far (p:=⟨q,i,none⟩) (show h+1≠q by omega) u,s.draw.grown (Own.grown_set X q i u) (fun g e=>by cases e;omega) hp⟩
theorem QSt.with_ (s:QSt p K h w c0 c1 c2 c3 c4 c5 d b0 b1 b2 b3 X) {c0' c1' c2' c3' c4' c5':Value} {d':QueryD} (ho:QryO X h c0' c1' c2' c3' c4' c5' d'):QSt p K h w c0' c1' c2' c3' c4' c5' d' b0 b1 b2 b3 X:=⟨ho,s.tab,s.res,s.draw⟩
theorem QSt.lim_ (s:QSt p K h w c0 c1 c2 c3 c4 c5 d b0 b1 b2 b3 X) (z:Int):QSt p K h w c0 c1 c2 c3 c4 (.int .i64 z) { d with limit:=z } b0 b1 b2 b3 X:=s.with_ ⟨s.own.tb,s.own.cols,s.own.wher,s.own.ord,s.own.desc,rfl⟩
theorem QSt.ord_ (s:QSt p K h w c0 c1 c2 c3 c4 c5 d b0 b1 b2 b3 X) (t:ByteArray):QSt p K h w c0 c1 c2 (.string t) c4 c5 { d with order:=t } b0 b1 b2 b3 X:=s.with_ ⟨s.own.tb,s.own.cols,s.own.wher,rfl,s.own.desc,s.own.lim⟩
theorem QSt.desc_ (s:QSt p K h w c0 c1 c2 c3 c4 c5 d b0 b1 b2 b3 X) (b:Bool):QSt p K h w c0 c1 c2 c3 (.bool b) c5 { d with desc:=b } b0 b1 b2 b3 X:=s.with_ ⟨s.own.tb,s.own.cols,s.own.wher,s.own.ord,rfl,s.own.lim⟩
theorem QSt.tabl_ (s:QSt p K h w c0 c1 c2 c3 c4 c5 d b0 b1 b2 b3 X) (t:ByteArray):QSt p K h w (.string t) c1 c2 c3 c4 c5 { d with table:=t } b0 b1 b2 b3 X:=s.with_ ⟨rfl,s.own.cols,s.own.wher,s.own.ord,s.own.desc,s.own.lim⟩
theorem QSt.cols_ (s:QSt p K h w c0 c1 c2 c3 c4 c5 d b0 b1 b2 b3 X) {u:Value} {t:ByteArray} (hr:Own.SubO Y h u (d.cols++[t])) (hg:X.grownBy Y c1.ownBlock) (hp:p<w.heap.size) (hw:w.heap.size≤h):QSt p K h w c0 u c2 c3 c4 c5 { d with cols:=d.cols++[t] } b0 b1 b2 b3 Y :=
 ⟨⟨s.own.tb,hr,World.ownsRow.kept s.own.wher hg (Own.apart_types s.own.wher s.own.cols (by decide)),s.own.ord,s.own.desc,s.own.lim⟩,s.tab.grown hg (fun e=>Own.own_blk_ne s.own.cols s.tab (by decide) e.symm),s.res.grown hg (fun e=>Own.own_blk_ne s.own.cols s.res (by decide) e.symm),s.draw.grown hg (fun g e=>Nat.le_trans hw (World.ownsRow.lt s.own.cols g e).1) hp⟩
theorem QSt.wher_ (s:QSt p K h w c0 c1 c2 c3 c4 c5 d b0 b1 b2 b3 X) {u:Value} {x:CondD} (hr:CondO Y h u (d.wher++[x])) (hg:X.grownBy Y c2.ownBlock) (hp:p<w.heap.size) (hw:w.heap.size≤h):QSt p K h w c0 c1 u c3 c4 c5 { d with wher:=d.wher++[x] } b0 b1 b2 b3 Y :=
 ⟨⟨s.own.tb,World.ownsRow.kept s.own.cols hg (Own.apart_types s.own.cols s.own.wher (by decide)),hr,s.own.ord,s.own.desc,s.own.lim⟩,s.tab.grown hg (fun e=>Own.own_blk_ne s.own.wher s.tab (by decide) e.symm),s.res.grown hg (fun e=>Own.own_blk_ne s.own.wher s.res (by decide) e.symm),s.draw.grown hg (fun g e=>Nat.le_trans hw (World.ownsRow.lt s.own.wher g e).1) hp⟩
end
end Go.Proofs.YtfpcjhajjejpdaaGreatDoor
namespace Go.Proofs.YtfpcjhajjejpdaaGreatDoor
open Go
set_option linter.unusedVariables false
section
variable {P:Program} {ops:Array Oper} {Q:Exit→Act→World→Prop} {md:Region.Mode} {S:World→Prop} {z:Nat}
def zAp (P:Program) (md:Region.Mode) (ops:Array Oper) (Q:Exit→Act→World→Prop) (S:World→Prop) (z:Nat):Nat→Array Bool→Act→World→Prop
 | 0,listed,a,w=>Region.ready md ops listed=[]∧Q .normal a w
 | fuel+1,listed,a,w =>
   (Region.ready md ops listed=[]→Q .normal a w) ∧
   ∀i∈Region.ready md ops listed,wpOp P ops Q i (fun a' w'=>(i≠z→S w')∧zAp P md ops Q S z fuel (listed.setIfInBounds i true) a' w') a w
theorem zEX:∀(fuel:Nat) (listed:Array Bool) (a:Act) (w:World),zAp P md ops Q S z fuel listed a w→wpAny P md ops Q fuel listed a w
 | 0,_,_,_,h=>h
 | fuel+1,_,_,_,h=>⟨h.1,fun i hi=>wpOp_mono (fun a' w' h'=>zEX fuel _ a' w' h'.2) (h.2 i hi)⟩
def zBu (md:Region.Mode) (ops:Array Oper) (listed:Array Bool):Prop:=∀k ok,ops[k]?=some ok→listed.getD k true=true→∀e∈ok.after,Region.binds md e=true→listed.getD e.on false=true
theorem zHl {listed:Array Bool} {j:Nat} (h:zBu md ops listed) (hj:j∈Region.ready md ops listed):zBu md ops (listed.setIfInBounds j true):=fun k ok hk hl e he hb=>by
 by_cases hjk:j=k
 · subst hjk;obtain⟨_,o,ho,hall⟩:=mem_ready.1 hj;rw[hk]at ho;cases ho;exact getD_set_true (hall e he hb)
 · rw[getD_set_ne true hjk]at hl;exact getD_set_true (h k ok hk hl e he hb)
def zBy (md:Region.Mode) (ops:Array Oper):List Nat→Bool
 | a::b::r=>((ops[a]?).map fun o=>o.after.any fun e=>Region.binds md e&&e.on==b).getD false&&zBy md ops (b::r)
 | _=>true
theorem zBY {a b:Nat} {o:Oper} (ho:ops[a]?=some o) (h:(((ops[a]?).map fun o=>o.after.any fun e=>Region.binds md e&&e.on==b).getD false)=true):∃e∈o.after,Region.binds md e=true∧e.on=b:=by
 rw[ho]at h;simp only[Option.map_some,Option.getD_some]at h;obtain⟨e,he,hb⟩:=Array.any_eq_true'.1 h;simp only[Bool.and_eq_true,beq_iff_eq]at hb;exact⟨e,he,hb.1,hb.2⟩
theorem zEf {listed:Array Bool} {k:Nat} (h:listed.getD k false=true):listed.getD k true=true:=by
 rcases Nat.lt_or_ge k listed.size with h' | h'
 · simpa [h'] using h
 · simp[Array.getElem?_eq_none h']at h
theorem zDa {listed:Array Bool} (hc:zBu md ops listed):∀(l:List Nat) (a i:Nat),listed.getD a true=true→(∃o,ops[a]?=some o)→zBy md ops (a::(l++[i]))=true→(∀k∈l,∃o,ops[k]?=some o)→listed.getD i false=true
 | [],a,i,ha,⟨o,ho⟩,h,_=>by simp only[List.nil_append,zBy,Bool.and_true]at h;obtain⟨e,he,hb,rfl⟩:=zBY ho h;exact hc a o ho ha e he hb
 | b::l,a,i,ha,⟨o,ho⟩,h,hl=>by rw[List.cons_append,zBy,Bool.and_eq_true]at h;obtain⟨e,he,hb,rfl⟩:=zBY ho h.1;exact zDa hc l e.on i (zEf (hc a o ho ha e he hb)) (hl _ (List.mem_cons_self ..)) h.2 (fun k hk=>hl k (List.mem_cons_of_mem _ hk))
theorem zHT {listed:Array Bool} (hc:zBu md ops listed) {b i:Nat} (l:List Nat) (hz:z∈Region.ready md ops listed) (h:zBy md ops (z::(l++[i]))=true) (hl:∀k∈l,∃o,ops[k]?=some o):listed.getD i false=true:=by
 obtain⟨_,o,ho,hall⟩:=mem_ready.1 hz
 match l,h,hl with
 | [],h,_=>simp only[List.nil_append,zBy,Bool.and_true]at h;obtain⟨e,he,hb,rfl⟩:=zBY ho h;exact hall e he hb
 | b::l,h,hl=>rw[List.cons_append,zBy,Bool.and_eq_true]at h;obtain⟨e,he,hb,rfl⟩:=zBY ho h.1;exact zDa hc l e.on i (zEf (hall e he hb)) (hl _ (List.mem_cons_self ..)) h.2 (fun k hk=>hl k (List.mem_cons_of_mem _ hk))
theorem zGb {i:Nat} {oi:Oper} {v:Value} (l:List Nat) (hp:zBy md ops (z::(l++[i]))=true) (hl:∀k∈l,∃o,ops[k]?=some o)
 (hi:ops[i]?=some oi) (hsel:∀(j:Nat) (o:Oper) cs b,ops[j]?=some o→o.op≠.select cs b)
 (hQ:∀c a w,Q (.panic c) (a.put oi.dst v) w→Q (.panic c) a w) :
 ∀(fuel:Nat) (listed:Array Bool) (a:Act) (w:World),
  (∀j oj,ops[j]?=some oj→j≠i→listed.getD j true=false→(∀e∈oj.after,Region.binds md e=true→e.on≠i)→oi.apart ops oj=true) →
  i∈Region.ready md ops listed→zBu md ops listed→YieldsIf P ops S oi v a→S w →
  zAp P md ops Q S z fuel (listed.setIfInBounds i true) (a.put oi.dst v) w→zAp P md ops Q S z (fuel+1) listed a w:=by
 have hno:∀listed:Array Bool,listed.getD i true=false→listed.getD i false=true→False:=fun listed h1 h2=>by rw[zEf h2]at h1;cases h1
 intro fuel
 induction fuel with
 | zero =>
   intro listed a w _ hr hc hy hS H;refine⟨fun h=>(by rw[h]at hr;cases hr),fun j hj=>?_⟩;by_cases hji:j=i
   · subst hji;exact hy.wpOp hi hS ⟨fun _=>hS,H⟩
   · have:=ready_mono hj hji;rw[H.1]at this;cases this
 | succ fuel ih =>
   intro listed a w hfree hr hc hy hS H;refine⟨fun h=>(by rw[h]at hr;cases hr),fun j hj=>?_⟩;by_cases hji:j=i
   · subst hji;exact hy.wpOp hi hS ⟨fun _=>hS,H⟩
   · have hjz:j≠z:=fun e=>by subst e;exact hno listed (mem_ready.1 hr).1 (zHT (b:=0) hc l hj hp hl)
     obtain⟨hjun,oj,hoj,hall⟩:=mem_ready.1 hj;have hnot:∀e∈oj.after,Region.binds md e=true→e.on≠i:=fun e he hb heq=>by have h1:=hall e he hb;rw[heq]at h1;exact hno listed (mem_ready.1 hr).1 h1
     have h2:=wpOp_putIf hoj (hfree j oj hoj hji hjun hnot) (fun cs b=>hsel i oi cs b hi) (fun cs b=>hsel j oj cs b hoj) hQ hy (H.2 j (ready_mono hj hji));refine wpOp_mono (fun a' w' h3=>?_) h2;obtain⟨hy',hS',hW⟩:=h3;rw[Array.setIfInBounds_comm _ _ (Ne.symm hji)]at hW
     exact⟨fun _=>hS' hjz,ih (listed.setIfInBounds j true) a' w' (fun k ok hk hki hun hno'=>by
      refine hfree k ok hk hki ?_ hno';by_cases hjk:j=k
      · subst hjk;exact hjun
      · rw[getD_set_ne true hjk]at hun;exact hun) (ready_mono hr (Ne.symm hji)) (zHl hc hj) hy' (hS' hjz) hW⟩
def zDC (md:Region.Mode) (ops:Array Oper) (listed:Array Bool):Bool:=(List.range ops.size).all fun k=>!listed.getD k true||((ops[k]?).map fun o=>o.after.all fun e=>!Region.binds md e||listed.getD e.on false).getD true
theorem zJQ {listed:Array Bool} (h:zDC md ops listed=true):zBu md ops listed:=fun k ok hk hl e he hb=>by
 unfold zDC at h;rw[List.all_eq_true]at h;have h1:=h k (List.mem_range.2 (Array.getElem?_eq_some_iff.1 hk).1);rw[hk,hl]at h1;simp only[Bool.not_true,Bool.false_or,Option.map_some,Option.getD_some]at h1;have h2:=Array.all_eq_true_iff_forall_mem.1 h1 e he;rw[hb]at h2;simpa using h2
def zKl (ops:Array Oper) (l:List Nat):Bool:=l.all fun k=>decide (k<ops.size)
theorem yA {i:Nat} {oi:Oper} {v:Value} {fuel:Nat} {listed:Array Bool} {a:Act} {w:World} (l:List Nat) (hp:(zBy md ops (z::(l++[i]))&&zKl ops l&&zDC md ops listed)=true) (hi:ops[i]?=some oi)
 (hs:Region.noSelect ops=true) (hf:Region.free md ops listed i=true) (hr:(Region.ready md ops listed).contains i=true)
 (hQ:∀c a w,Q (.panic c) (a.put oi.dst v) w→Q (.panic c) a w) (hy:YieldsIf P ops S oi v a) (hS:S w)
 (h:zAp P md ops Q S z fuel (listed.setIfInBounds i true) (a.put oi.dst v) w):zAp P md ops Q S z (fuel+1) listed a w:=by
 rw[Bool.and_eq_true,Bool.and_eq_true]at hp;refine zGb l hp.1.1 (fun k hk=>?_) hi (Region.noSelect_spec hs) hQ fuel listed a w (Region.free_spec hi hf) (by simpa using hr) (zJQ hp.2) hy hS h;have h1:=List.all_eq_true.1 hp.1.2 k hk;exact⟨ops[k]'(of_decide_eq_true h1),Array.getElem?_eq_getElem _⟩
theorem yM {listed:Array Bool} {a:Act} {w:World} (hr:Region.ready md ops listed=[]) (h:Q .normal a w):∀fuel,zAp P md ops Q S z fuel listed a w
 | 0=>⟨hr,h⟩
 | _+1=>⟨fun _=>h,by rw[hr];simp⟩
def AllReadyE (P:Program) (md:Region.Mode) (ops:Array Oper) (Q:Exit→Act→World→Prop) (S:World→Prop) (z fuel:Nat) (listed:Array Bool) (a:Act) (w:World) (rs:List Nat):Prop :=
 ∀i∈rs,wpOp P ops Q i (fun a' w'=>(i≠z→S w')∧zAp P md ops Q S z fuel (listed.setIfInBounds i true) a' w') a w
theorem AllReadyE.nil {fuel:Nat} {listed:Array Bool} {a:Act} {w:World}:AllReadyE P md ops Q S z fuel listed a w []:=fun _ h=>by cases h
theorem AllReadyE.cons {fuel:Nat} {listed:Array Bool} {a:Act} {w:World} {i:Nat} {o:Oper} {rs:List Nat} (ho:ops[i]?=some o)
 (h:∀K':Act→World→Prop,Shut (∀a w,(i≠z→S w)→((i≠z→S w)→zAp P md ops Q S z fuel (listed.setIfInBounds i true) a w)→K' a w)→if Region.wanted o (yielded ops a.tmps)=true then Oper.wp P o a w K' Q else K' (a.put o.dst undef) w)
 (hs:AllReadyE P md ops Q S z fuel listed a w rs):AllReadyE P md ops Q S z fuel listed a w (i::rs):=fun j hj=>by
 rcases List.mem_cons.1 hj with rfl | hj
 · exact wpOp_step ho (fun K' hK=>h K' (fun a w hS hW=>hK a w ⟨hS,hW hS⟩))
 · exact hs j hj
theorem wA {rs:List Nat} {fuel:Nat} {listed:Array Bool} {a:Act} {w:World} (hr:Region.ready md ops listed=rs) (hne:rs≠[])
 (h:AllReadyE P md ops Q S z fuel listed a w rs):zAp P md ops Q S z (fuel+1) listed a w:=⟨fun h0=>absurd (hr ▸ h0) hne,hr ▸ h⟩
theorem uL {id:Nat} {a:Act} {w:World} (z:Nat) (hm:P.follows .mixedOrders=true) (hS:S w.drew)
 (h:S w.drew→zAp P .any ops Q S z ops.size (Array.replicate ops.size false) a w.drew):(Code.region id ops true).wp P Q a w :=
 wp_region_any hm (zEX _ _ _ _ (h hS))
end
end Go.Proofs.YtfpcjhajjejpdaaGreatDoor
namespace Go.Proofs.YtfpcjhajjejpdaaGreatDoor
open Go
set_option linter.unusedVariables false
section
variable {P:Program} {ops:Array Oper} {Q:Exit→Act→World→Prop} {md:Region.Mode} {S:World→Prop} {z:Nat}
theorem wt (i:Nat) (v:Value) {oi:Oper} {fuel:Nat} {listed:Array Bool} {a:Act} {w:World} (l:List Nat) (hv:∀w,S w→(execOp a.eval oi).run P w=.ok (.value v) w)
 (h:zAp P md ops Q S z fuel (listed.setIfInBounds i true) (a.put oi.dst v) w) (hi:ops[i]?=some oi:=by rfl)
 (hb:((zBy md ops (z::(l++[i]))&&zKl ops l&&zDC md ops listed)&&(Region.noSelect ops&&(Region.free md ops listed i&&(Region.ready md ops listed).contains i)))=true:=by kernel_rfl)
 (hw:Region.wanted oi (yielded ops a.tmps)=true:=by rfl) (hQ:∀c a w,Q (.panic c) (a.put oi.dst v) w→Q (.panic c) a w:=by exact fun _ _ _ h=>h) (hS:S w:=by assumption):zAp P md ops Q S z (fuel+1) listed a w:=by
 simp only[Bool.and_eq_true]at hb;exact yA l (by simp only[Bool.and_eq_true];exact hb.1) hi hb.2.1 hb.2.2.1 hb.2.2.2 hQ (Or.inl ⟨hw,hv⟩) hS h
end
theorem shr {A B C D E F:Type} {J:A→Prop} {G:A→B→C→D→E→F→Prop} {P:Prop} (H:A→B→C→D→E→F→Prop) (m:(∀a b c d e f,H a b c d e f→J a→G a b c d e f)→P)
 (t:∀a b c d e f,H a b c d e f→J a→G a b c d e f):P:=m t
end Go.Proofs.YtfpcjhajjejpdaaGreatDoor
