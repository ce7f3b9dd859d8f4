import Derived.Test.YtfpcjhajjejpdaaGreatDoorY18
namespace Go.Proofs.YtfpcjhajjejpdaaGreatDoor
open Go.RowKit
set_option linter.unusedVariables false
def zAl:List CondD→List Value
 | []=>[]
 | d::r=>.string d.col::.int .i64 d.op::.string d.val::zAl r
theorem zGF:∀(fs:List CondD) (d:CondD),zAl (fs++[d])=zAl fs++[.string d.col,.int .i64 d.op,.string d.val]
 | [],d=>rfl
 | e::r,d=>by simp only[List.cons_append,zAl,zGF r d]
theorem zIE:∀(fs:List CondD) (j:Nat),j<fs.length→(zAl fs)[j*3]?=some (.string (fs.getD j default).col)∧(zAl fs)[j*3+1]?=some (.int .i64 (fs.getD j default).op)∧(zAl fs)[j*3+2]?=some (.string (fs.getD j default).val)
 | [],_,h=>by simp at h
 | d::r,0,_=>by simp[zAl]
 | d::r,j+1,h=>by have ih:=zIE r j (by simpa using h);rw[show(j+1)*3=j*3+1+1+1 by omega];simpa [zAl] using ih
def CondO (w:World) (base:Nat) (v:Value) (fs:List CondD):Prop:=w.ownsRow base 44 3 v fs.length (zAl fs)
theorem zGw:(Tryz.prog.info? 44).map (fun i=>(i.zero,i.size,i.bytes))=some (some (.agg #[.string .empty,.int .i64 0,.string .empty]),3,40):=by kernel_rfl
section
variable {w w':World} {bs bs' p K K':Nat} {v:Value} {fs:List CondD}
theorem CondO.later (h:CondO w bs v fs) (hb:Below w.heap.size w w'):CondO w' bs v fs:=Own.own_later h hb
theorem CondO.base (h:CondO w bs' v fs) (hb:bs≤bs'):CondO w bs v fs:=Own.own_base h hb
theorem CondO.drawn (h:CondO w bs v fs) (hs:SrcR w p K) (hd:Drawn p K' w w'):CondO w' bs v fs:=Own.own_chg h hd.chg (hs.not_own h (by decide))
theorem CondO.setBlk {g tp i:Nat} {u:Value} {cs:Array Value} (h:CondO w bs v fs) (hB:Blk w g tp cs) (h2:44≠tp):CondO (w.setCell ⟨g,i,none⟩ u) bs v fs:=World.ownsRow.kept h (row:=some g) (Own.grown_set _ _ _ _) (.inr (Own.own_blk_ne h hB h2))
theorem CondO.nil (w:World) (base:Nat):CondO w base (.slice none 0 0) []:=World.ownsRow_nil _ _ _ _
theorem CondO.reads (h:CondO w bs v fs):∃A cap,v=.slice A fs.length cap∧fs.length≤cap∧Conds w w.heap.size A fs.length fs:=by
 obtain⟨A,cap,rfl,hc,_,hA⟩:=Own.own_slice h;refine⟨A,cap,rfl,hc,rfl,fun hn=>?_⟩;obtain⟨g,rfl,hg,_⟩:=hA hn;refine⟨g,0,rfl,hg,fun j hj=>?_⟩;obtain⟨h0,h1,h2⟩:=zIE fs j hj;refine⟨_,_,_,?_,?_,?_,rfl,rfl,rfl⟩
 · rw[Nat.zero_add];exact Own.own_cell h (j*3) _ (by omega) h0
 · rw[Nat.zero_add];exact Own.own_cell h (j*3+1) _ (by omega) h1
 · rw[Nat.zero_add];exact Own.own_cell h (j*3+2) _ (by omega) h2
end
structure QryO (w:World) (base:Nat) (c0 c1 c2 c3 c4 c5:Value) (d:QueryD):Prop where
 tb:c0=.string d.table
 cols:Own.SubO w base c1 d.cols
 wher:CondO w base c2 d.wher
 ord:c3=.string d.order
 desc:c4=.bool d.desc
 lim:c5=.int .i64 d.limit
section
variable {w w':World} {bs bs' p K K':Nat} {c0 c1 c2 c3 c4 c5:Value} {d:QueryD}
theorem QryO.later (h:QryO w bs c0 c1 c2 c3 c4 c5 d) (hb:Below w.heap.size w w'):QryO w' bs c0 c1 c2 c3 c4 c5 d:=⟨h.tb,Own.own_later h.cols hb,h.wher.later hb,h.ord,h.desc,h.lim⟩
theorem QryO.base (h:QryO w bs' c0 c1 c2 c3 c4 c5 d) (hb:bs≤bs'):QryO w bs c0 c1 c2 c3 c4 c5 d:=⟨h.tb,Own.own_base h.cols hb,h.wher.base hb,h.ord,h.desc,h.lim⟩
theorem QryO.drawn (h:QryO w bs c0 c1 c2 c3 c4 c5 d) (hs:SrcR w p K) (hd:Drawn p K' w w'):QryO w' bs c0 c1 c2 c3 c4 c5 d:=⟨h.tb,SubO.drawn h.cols hs hd,h.wher.drawn hs hd,h.ord,h.desc,h.lim⟩
theorem QryO.setBlk {g tp i:Nat} {u:Value} {cs:Array Value} (h:QryO w bs c0 c1 c2 c3 c4 c5 d) (hB:Blk w g tp cs) (h2:9≠tp) (h3:44≠tp):QryO (w.setCell ⟨g,i,none⟩ u) bs c0 c1 c2 c3 c4 c5 d:=⟨h.tb,World.ownsRow.kept h.cols (row:=some g) (Own.grown_set _ _ _ _) (.inr (Own.own_blk_ne h.cols hB h2)),h.wher.setBlk hB h3,h.ord,h.desc,h.lim⟩
theorem QryO.reads (h:QryO w bs c0 c1 c2 c3 c4 c5 d):QueryR w w.heap.size c0 c1 c2 c3 c4 c5 d:=by
 obtain⟨A1,p1,e1,k1,s1⟩:=h.cols.strs;obtain⟨A2,p2,e2,k2,s2⟩:=h.wher.reads;exact⟨h.tb,⟨A1,_,p1,e1,s1,k1⟩,⟨A2,_,p2,e2,s2,k2⟩,h.ord,h.desc,h.lim⟩
end
def zLT (n m:Nat) (d:QueryD):Prop:=d.table.size≤16∧(d.cols.length≤n∧∀s∈d.cols,s.size≤16)∧(d.wher.length≤m∧∀x∈d.wher,x.col.size≤16∧x.val.size≤16)∧d.order.size≤16
theorem zDP {n m:Nat} {d:QueryD} (h:zLT n m d) (hn:n≤1000) (hm:m≤1000):d.small :=
 ⟨Nat.le_trans h.1 (by decide),⟨Nat.le_trans (Nat.le_trans h.2.1.1 hn) (by decide),fun s hs=>Nat.le_trans (h.2.1.2 s hs) (by decide)⟩,⟨Nat.le_trans (Nat.le_trans h.2.2.1.1 hm) (by decide),fun x hx=>⟨Nat.le_trans (h.2.2.1.2 x hx).1 (by decide),Nat.le_trans (h.2.2.1.2 x hx).2 (by decide)⟩⟩,Nat.le_trans h.2.2.2 (by decide)⟩
def zKP (p K n m:Nat) (w:World) (e:Ending) (w':World):Prop:=∃c0 c1 c2 c3 c4 c5 d,e=.returned (.agg #[c0,c1,c2,c3,c4,c5])∧QryO w' w.heap.size c0 c1 c2 c3 c4 c5 d∧zLT n m d∧Drawn p K w w'
structure QSt (p K h:Nat) (w:World) (c0 c1 c2 c3 c4 c5:Value) (d:QueryD) (b0 b1 b2 b3:Value) (X:World):Prop where
 own:QryO X h c0 c1 c2 c3 c4 c5 d
 tab:Blk X h 29 #[b0,b1,b2,b3]
 res:Blk X (h+1) 32 #[.string ⟨#[]⟩,.slice none 0 0,.slice none 0 0,.string ⟨#[]⟩,.bool false,.int .i64 0]
 draw:Drawn p K w X
section
variable {p K K' h q:Nat} {w X Y:World} {c0 c1 c2 c3 c4 c5 b0 b1 b2 b3:Value} {d:QueryD}
theorem QSt.later (s:QSt p K h w c0 c1 c2 c3 c4 c5 d b0 b1 b2 b3 X) (hb:Below X.heap.size X Y):QSt p K h w c0 c1 c2 c3 c4 c5 d b0 b1 b2 b3 Y:=⟨s.own.later hb,s.tab.later hb s.tab.lt,s.res.later hb s.res.lt,s.draw.later hb⟩
theorem QSt.drawn (s:QSt p K h w c0 c1 c2 c3 c4 c5 d b0 b1 b2 b3 X) (hd:Drawn p K' X Y) (hp:p<h):QSt p K' h w c0 c1 c2 c3 c4 c5 d b0 b1 b2 b3 Y:=⟨s.own.drawn s.draw.src hd,Blk.drawn s.tab hd (by omega),Blk.drawn s.res hd (by omega),s.draw.trans hd⟩
theorem QSt.mono (s:QSt p K h w c0 c1 c2 c3 c4 c5 d b0 b1 b2 b3 X) (hK:K≤K'):QSt p K' h w c0 c1 c2 c3 c4 c5 d b0 b1 b2 b3 X:=⟨s.own,s.tab,s.res,s.draw.mono hK⟩
theorem QSt.side (s:QSt p K h w c0 c1 c2 c3 c4 c5 d b0 b1 b2 b3 X) {cs:Array Value} (hb:Blk X q 32 cs) (hq:h+1<q) (hp:p<w.heap.size) (hw:w.heap.size≤h) (i:Nat) (u:Value):QSt p K h w c0 c1 c2 c3 c4 c5 d b0 b1 b2 b3 (X.setCell ⟨q,i,none⟩ u) :=
 ⟨s.own.setBlk hb (by decide) (by decide),s.tab.far (p:=⟨q,i,none⟩) (show h≠q by omega) u,s.res.far (p:=⟨q,i,none⟩) (show h+1≠q by omega) u,s.draw.grown (Own.grown_set X q i u) (fun g e=>by cases e;omega) hp⟩
theorem QSt.with_ (s:QSt p K h w c0 c1 c2 c3 c4 c5 d b0 b1 b2 b3 X) {c0' c1' c2' c3' c4' c5':Value} {d':QueryD} (ho:QryO X h c0' c1' c2' c3' c4' c5' d'):QSt p K h w c0' c1' c2' c3' c4' c5' d' b0 b1 b2 b3 X:=⟨ho,s.tab,s.res,s.draw⟩
theorem QSt.lim_ (s:QSt p K h w c0 c1 c2 c3 c4 c5 d b0 b1 b2 b3 X) (z:Int):QSt p K h w c0 c1 c2 c3 c4 (.int .i64 z) { d with limit:=z } b0 b1 b2 b3 X:=s.with_ ⟨s.own.tb,s.own.cols,s.own.wher,s.own.ord,s.own.desc,rfl⟩
theorem QSt.ord_ (s:QSt p K h w c0 c1 c2 c3 c4 c5 d b0 b1 b2 b3 X) (t:ByteArray):QSt p K h w c0 c1 c2 (.string t) c4 c5 { d with order:=t } b0 b1 b2 b3 X:=s.with_ ⟨s.own.tb,s.own.cols,s.own.wher,rfl,s.own.desc,s.own.lim⟩
theorem QSt.desc_ (s:QSt p K h w c0 c1 c2 c3 c4 c5 d b0 b1 b2 b3 X) (b:Bool):QSt p K h w c0 c1 c2 c3 (.bool b) c5 { d with desc:=b } b0 b1 b2 b3 X:=s.with_ ⟨s.own.tb,s.own.cols,s.own.wher,s.own.ord,rfl,s.own.lim⟩
theorem QSt.tabl_ (s:QSt p K h w c0 c1 c2 c3 c4 c5 d b0 b1 b2 b3 X) (t:ByteArray):QSt p K h w (.string t) c1 c2 c3 c4 c5 { d with table:=t } b0 b1 b2 b3 X:=s.with_ ⟨rfl,s.own.cols,s.own.wher,s.own.ord,s.own.desc,s.own.lim⟩
theorem QSt.cols_ (s:QSt p K h w c0 c1 c2 c3 c4 c5 d b0 b1 b2 b3 X) {u:Value} {t:ByteArray} (hr:Own.SubO Y h u (d.cols++[t])) (hg:X.grownBy Y c1.ownBlock) (hp:p<w.heap.size) (hw:w.heap.size≤h):QSt p K h w c0 u c2 c3 c4 c5 { d with cols:=d.cols++[t] } b0 b1 b2 b3 Y :=
 ⟨⟨s.own.tb,hr,World.ownsRow.kept s.own.wher hg (Own.apart_types s.own.wher s.own.cols (by decide)),s.own.ord,s.own.desc,s.own.lim⟩,s.tab.grown hg (fun e=>Own.own_blk_ne s.own.cols s.tab (by decide) e.symm),s.res.grown hg (fun e=>Own.own_blk_ne s.own.cols s.res (by decide) e.symm),s.draw.grown hg (fun g e=>Nat.le_trans hw (World.ownsRow.lt s.own.cols g e).1) hp⟩
theorem QSt.wher_ (s:QSt p K h w c0 c1 c2 c3 c4 c5 d b0 b1 b2 b3 X) {u:Value} {x:CondD} (hr:CondO Y h u (d.wher++[x])) (hg:X.grownBy Y c2.ownBlock) (hp:p<w.heap.size) (hw:w.heap.size≤h):QSt p K h w c0 c1 u c3 c4 c5 { d with wher:=d.wher++[x] } b0 b1 b2 b3 Y :=
 ⟨⟨s.own.tb,World.ownsRow.kept s.own.cols hg (Own.apart_types s.own.cols s.own.wher (by decide)),hr,s.own.ord,s.own.desc,s.own.lim⟩,s.tab.grown hg (fun e=>Own.own_blk_ne s.own.wher s.tab (by decide) e.symm),s.res.grown hg (fun e=>Own.own_blk_ne s.own.wher s.res (by decide) e.symm),s.draw.grown hg (fun g e=>Nat.le_trans hw (World.ownsRow.lt s.own.wher g e).1) hp⟩
end
end Go.Proofs.YtfpcjhajjejpdaaGreatDoor
