import Derived.Test.YtgmaamnofhmecaaGreatDoorY15
import Derived.Test.YtgmaamnofhmecaaGreatDoorY23
import Derived.Test.YtgmaamnofhmecaaGreatDoorY03
import Derived.Test.YtgmaamnofhmecaaGreatDoorY14
set_option linter.unusedSimpArgs false
set_option maxHeartbeats 2000000
open Go.Lib renaming hid → zh
namespace Go.Proofs.YtgmaamnofhmecaaGreatDoor
open Go.RowKit
set_option linter.unusedVariables false
def EvR (w:World) (B:Nat) (c0 c1 c2 c3 c4:Value) (d:EvD):Prop :=
 c0=.int .i64 d.kind∧c1=.string d.name∧(∃A n cap,c2=.slice A n cap∧Strs w B A n d.subs∧n≤cap)∧c3=.string d.val∧c4=.int .i64 d.n
theorem EvR.keep {w w':World} {B:Nat} {c0 c1 c2 c3 c4:Value} {d:EvD} (h:EvR w B c0 c1 c2 c3 c4 d) (hk:∀p:Addr,p.block<B→w'.cell? p=w.cell? p):EvR w' B c0 c1 c2 c3 c4 d:=by
 obtain⟨e0,e1,⟨A1,n1,p1,e2,s1,k1⟩,e3,e4⟩:=h;exact⟨e0,e1,⟨A1,n1,p1,e2,s1.keep hk,k1⟩,e3,e4⟩
theorem EvR.more {w:World} {B B':Nat} {c0 c1 c2 c3 c4:Value} {d:EvD} (h:EvR w B c0 c1 c2 c3 c4 d) (hB:B≤B'):EvR w B' c0 c1 c2 c3 c4 d:=by
 obtain⟨e0,e1,⟨A1,n1,p1,e2,s1,k1⟩,e3,e4⟩:=h;exact⟨e0,e1,⟨A1,n1,p1,e2,s1.more hB,k1⟩,e3,e4⟩
theorem EvR.later {w w':World} {c0 c1 c2 c3 c4:Value} {d:EvD} (h:EvR w w.heap.size c0 c1 c2 c3 c4 d) (hb:Below w.heap.size w w'):EvR w' w'.heap.size c0 c1 c2 c3 c4 d :=
 (h.keep fun _ hp=>hb.cell hp).more hb.size
def Evs (w:World) (B:Nat) (A:Option Addr) (n:Nat) (fs:List EvD):Prop :=
 fs.length=n∧(0<n→∃b o,A=some ⟨b,o,none⟩∧b<B∧∀j,j<n→∃c0 c1 c2 c3 c4,w.cell? ⟨b,o+j*5,none⟩=some c0∧w.cell? ⟨b,o+j*5+1,none⟩=some c1∧w.cell? ⟨b,o+j*5+2,none⟩=some c2∧w.cell? ⟨b,o+j*5+3,none⟩=some c3∧w.cell? ⟨b,o+j*5+4,none⟩=some c4∧EvR w B c0 c1 c2 c3 c4 (fs.getD j default))
section
variable {w w':World} {B B' n:Nat} {A:Option Addr} {fs:List EvD}
theorem Evs.keep (h:Evs w B A n fs) (hk:∀p:Addr,p.block<B→w'.cell? p=w.cell? p):Evs w' B A n fs :=
 ⟨h.1,fun hn=>by
   obtain⟨b,o,e,hb,hc⟩:=h.2 hn;refine⟨b,o,e,hb,fun j hj=>?_⟩;obtain⟨c0,c1,c2,c3,c4,h0,h1,h2,h3,h4,hr⟩:=hc j hj
   exact⟨c0,c1,c2,c3,c4,(hk _ hb).trans h0,(hk _ hb).trans h1,(hk _ hb).trans h2,(hk _ hb).trans h3,(hk _ hb).trans h4,hr.keep hk⟩⟩
theorem Evs.more (h:Evs w B A n fs) (hB:B≤B'):Evs w B' A n fs :=
 ⟨h.1,fun hn=>by
   obtain⟨b,o,e,hb,hc⟩:=h.2 hn;refine⟨b,o,e,by omega,fun j hj=>?_⟩;obtain⟨c0,c1,c2,c3,c4,h0,h1,h2,h3,h4,hr⟩:=hc j hj
   exact⟨c0,c1,c2,c3,c4,h0,h1,h2,h3,h4,hr.more hB⟩⟩
theorem Evs.later (h:Evs w w.heap.size A n fs) (hb:Below w.heap.size w w'):Evs w' w'.heap.size A n fs:=(h.keep fun _ hp=>hb.cell hp).more hb.size
end
def EvD.small (d:EvD):Prop:=d.name.size≤1048576∧(d.subs.length≤1048576∧∀s∈d.subs,s.size≤1048576)∧d.val.size≤1048576
def evK:Own.Kind EvD:=⟨5,fun d v=>[.int .i64 d.kind,.string d.name,v,.string d.val,.int .i64 d.n],fun d=>d.subs,fun _ _=>rfl,by decide⟩
def EvsO (w:World) (base:Nat) (v:Value) (fs:List EvD):Prop:=∃vs,Own.OwnL evK w base 55 v fs vs
theorem zIk:(Tryz.prog.info? 55).map (fun i=>(i.zero,i.size,i.bytes))=some (some (.agg #[.int .i64 0,.string .empty,.slice none 0 0,.string .empty,.int .i64 0]),5,72):=by kernel_rfl
theorem EvsO.later {w w':World} {base:Nat} {v:Value} {fs:List EvD} (h:EvsO w base v fs) (hb:Below w.heap.size w w'):EvsO w' base v fs:=by
 obtain⟨vs,h1⟩:=h;exact⟨vs,h1.later hb⟩
theorem EvsO.base {w:World} {base base':Nat} {v:Value} {fs:List EvD} (h:EvsO w base' v fs) (hb:base≤base'):EvsO w base v fs:=by
 obtain⟨vs,h1⟩:=h;exact⟨vs,h1.base hb⟩
theorem EvsO.reads {w:World} {base:Nat} {v:Value} {fs:List EvD} (h:EvsO w base v fs):∃A cap,v=.slice A fs.length cap∧fs.length≤cap∧Evs w w.heap.size A fs.length fs:=by
 obtain⟨vs,h⟩:=h;obtain⟨A,cap,rfl,hc,_,hA⟩:=Own.own_slice h.row;refine⟨A,cap,rfl,hc,rfl,fun hn=>?_⟩;obtain⟨g,rfl,hg,_⟩:=hA hn;refine⟨g,0,rfl,hg,fun j hj=>?_⟩;have h0:=h.cellAt rfl j 0 hj (by decide);have h1:=h.cellAt rfl j 1 hj (by decide);have h2:=h.cellAt rfl j 2 hj (by decide);have h3:=h.cellAt rfl j 3 hj (by decide);have h4:=h.cellAt rfl j 4 hj (by decide);obtain⟨A1,cap1,e1,hc1,hs1⟩:=(h.subs j hj).strs;refine⟨_,_,_,_,_,by rw[Nat.zero_add];exact h0,by rw[Nat.zero_add];exact h1,by rw[Nat.zero_add];exact h2,by rw[Nat.zero_add];exact h3,by rw[Nat.zero_add];exact h4,rfl,rfl,⟨A1,_,cap1,e1,hs1,hc1⟩,rfl,rfl⟩
def yM (d:EvD) (w:World) (e:Ending) (w':World):Prop:=∃v,e=.returned (.agg #[.int .i64 d.kind,.string d.name,v,.string d.val,.int .i64 d.n])∧Own.SubO w' w.heap.size v d.subs∧Below w.heap.size w w'
def BatR (w:World) (B:Nat) (c0 c1:Value) (d:BatD):Prop:=c0=.int .i64 d.job∧∃A n cap,c1=.slice A n cap∧Evs w B A n d.evs∧n≤cap
theorem BatR.keep {w w':World} {B:Nat} {c0 c1:Value} {d:BatD} (h:BatR w B c0 c1 d) (hk:∀p:Addr,p.block<B→w'.cell? p=w.cell? p):BatR w' B c0 c1 d:=by
 obtain⟨e0,A1,n1,p1,e2,s1,k1⟩:=h;exact⟨e0,A1,n1,p1,e2,s1.keep hk,k1⟩
theorem BatR.more {w:World} {B B':Nat} {c0 c1:Value} {d:BatD} (h:BatR w B c0 c1 d) (hB:B≤B'):BatR w B' c0 c1 d:=by
 obtain⟨e0,A1,n1,p1,e2,s1,k1⟩:=h;exact⟨e0,A1,n1,p1,e2,s1.more hB,k1⟩
theorem BatR.later {w w':World} {c0 c1:Value} {d:BatD} (h:BatR w w.heap.size c0 c1 d) (hb:Below w.heap.size w w'):BatR w' w'.heap.size c0 c1 d :=
 (h.keep fun _ hp=>hb.cell hp).more hb.size
def Bats (w:World) (B:Nat) (A:Option Addr) (n:Nat) (fs:List BatD):Prop :=
 fs.length=n∧(0<n→∃b o,A=some ⟨b,o,none⟩∧b<B∧∀j,j<n→∃c0 c1,w.cell? ⟨b,o+j*2,none⟩=some c0∧w.cell? ⟨b,o+j*2+1,none⟩=some c1∧BatR w B c0 c1 (fs.getD j default))
section
variable {w w':World} {B B' n:Nat} {A:Option Addr} {fs:List BatD}
theorem Bats.keep (h:Bats w B A n fs) (hk:∀p:Addr,p.block<B→w'.cell? p=w.cell? p):Bats w' B A n fs :=
 ⟨h.1,fun hn=>by
   obtain⟨b,o,e,hb,hc⟩:=h.2 hn;refine⟨b,o,e,hb,fun j hj=>?_⟩;obtain⟨c0,c1,h0,h1,hr⟩:=hc j hj
   exact⟨c0,c1,(hk _ hb).trans h0,(hk _ hb).trans h1,hr.keep hk⟩⟩
theorem Bats.more (h:Bats w B A n fs) (hB:B≤B'):Bats w B' A n fs :=
 ⟨h.1,fun hn=>by
   obtain⟨b,o,e,hb,hc⟩:=h.2 hn;refine⟨b,o,e,by omega,fun j hj=>?_⟩;obtain⟨c0,c1,h0,h1,hr⟩:=hc j hj
   exact⟨c0,c1,h0,h1,hr.more hB⟩⟩
theorem Bats.later (h:Bats w w.heap.size A n fs) (hb:Below w.heap.size w w'):Bats w' w'.heap.size A n fs:=(h.keep fun _ hp=>hb.cell hp).more hb.size
end
end Go.Proofs.YtgmaamnofhmecaaGreatDoor
namespace Go.Proofs.YtgmaamnofhmecaaGreatDoor
open Go.RowKit
set_option linter.unusedVariables false
set_option maxRecDepth 100000 in
theorem zAi (c0 c1 c2 c3 c4:Value) (d:EvD) (w:World) (h:EvR w w.heap.size c0 c1 c2 c3 c4 d) :
 Calls Tryz.prog 104 #[.agg #[c0,c1,c2,c3,c4]] w fun e w'=>e=.returned (.bool (xI d))∧Below w.heap.size w w':=by
 obtain⟨rfl,rfl,⟨S,m,q,rfl,hs,hmq⟩,rfl,rfl⟩:=h;have HR:Hid (xI d=(decide (d.kind=1)||(decide (d.kind=4)||(decide (d.kind=5)||decide (d.kind=6))))):=rfl;clear hs;generalize xI d=R at *;generalize d.name=nm at *;generalize d.val=vl at *;generalize d.kind=kd at *;generalize d.n=nn at *;go_enter Tryz.func104,Tryz.ntmps104;by_cases h1:kd=1
 · subst h1;have HE:Hid (R=true):=by unfold Hid;rw[HR.out];simp
   go_wp2_with fail;go_ret;exact⟨zA0 HE.out.symm,Below.new _ _⟩
 have hb1:(kd==(1:Int))=false:=beq_eq_false_iff_ne.2 h1;by_cases h4:kd=4
 · subst h4;have HE:Hid (R=true):=by unfold Hid;rw[HR.out];simp
   go_wp2_with fail;go_ret;exact⟨zA0 HE.out.symm,Below.new _ _⟩
 have hb4:(kd==(4:Int))=false:=beq_eq_false_iff_ne.2 h4;by_cases h5:kd=5
 · subst h5;have HE:Hid (R=true):=by unfold Hid;rw[HR.out];simp
   go_wp2_with fail;go_ret;exact⟨zA0 HE.out.symm,Below.new _ _⟩
 have hb5:(kd==(5:Int))=false:=beq_eq_false_iff_ne.2 h5;by_cases h6:kd=6
 · subst h6;have HE:Hid (R=true):=by unfold Hid;rw[HR.out];simp
   go_wp2_with fail;go_ret;exact⟨zA0 HE.out.symm,Below.new _ _⟩
 have hb6:(kd==(6:Int))=false:=beq_eq_false_iff_ne.2 h6;have HE:Hid (R=false):=by unfold Hid;rw[HR.out];simp[h1,h4,h5,h6]
 go_wp2_with fail;go_ret;exact⟨zA0 HE.out.symm,Below.new _ _⟩
set_option maxRecDepth 100000 in
theorem zAh (c0 c1 c2 c3 c4:Value) (d:EvD) (w:World) (h:EvR w w.heap.size c0 c1 c2 c3 c4 d) :
 Calls Tryz.prog 107 #[.agg #[c0,c1,c2,c3,c4]] w fun e w'=>e=.returned (.bool (uB d))∧Below w.heap.size w w':=by
 obtain⟨rfl,rfl,⟨S,m,q,rfl,hs,hmq⟩,rfl,rfl⟩:=h;have HR:Hid (uB d=(decide (d.kind=2)||decide (d.kind=3))):=rfl;clear hs;generalize uB d=R at *;generalize d.name=nm at *;generalize d.val=vl at *;generalize d.kind=kd at *;generalize d.n=nn at *;go_enter Tryz.func107,Tryz.ntmps107;by_cases h2:kd=2
 · subst h2;have HE:Hid (R=true):=by unfold Hid;rw[HR.out];simp
   go_wp2_with fail;go_ret;exact⟨zA0 HE.out.symm,Below.new _ _⟩
 have hb2:(kd==(2:Int))=false:=beq_eq_false_iff_ne.2 h2;by_cases h3:kd=3
 · subst h3;have HE:Hid (R=true):=by unfold Hid;rw[HR.out];simp
   go_wp2_with fail;go_ret;exact⟨zA0 HE.out.symm,Below.new _ _⟩
 have hb3:(kd==(3:Int))=false:=beq_eq_false_iff_ne.2 h3;have HE:Hid (R=false):=by unfold Hid;rw[HR.out];simp[h2,h3]
 go_wp2_with fail;go_ret;exact⟨zA0 HE.out.symm,Below.new _ _⟩
set_option maxRecDepth 100000 in
theorem zGP (c0 c1 c2 c3 c4:Value) (d:EvD) (w:World) (h:EvR w w.heap.size c0 c1 c2 c3 c4 d) :
 Calls Tryz.prog 114 #[.agg #[c0,c1,c2,c3,c4]] w fun e w'=>e=.returned (.bool (uB d))∧Below w.heap.size w w':=by
 obtain⟨rfl,rfl,⟨S,m,q,rfl,hs,hmq⟩,rfl,rfl⟩:=h;have HR:Hid (uB d=(decide (d.kind=2)||decide (d.kind=3))):=rfl;clear hs;generalize uB d=R at *;generalize d.name=nm at *;generalize d.val=vl at *;generalize d.kind=kd at *;generalize d.n=nn at *;go_enter Tryz.func114,Tryz.ntmps114;by_cases h2:kd=2
 · subst h2;have HE:Hid (R=true):=by unfold Hid;rw[HR.out];simp
   go_wp2_with fail;go_ret;exact⟨zA0 HE.out.symm,Below.new _ _⟩
 have hb2:(kd==(2:Int))=false:=beq_eq_false_iff_ne.2 h2;by_cases h3:kd=3
 · subst h3;have HE:Hid (R=true):=by unfold Hid;rw[HR.out];simp
   go_wp2_with fail;go_ret;exact⟨zA0 HE.out.symm,Below.new _ _⟩
 have hb3:(kd==(3:Int))=false:=beq_eq_false_iff_ne.2 h3;have HE:Hid (R=false):=by unfold Hid;rw[HR.out];simp[h2,h3]
 go_wp2_with fail;go_ret;exact⟨zA0 HE.out.symm,Below.new _ _⟩
set_option maxRecDepth 100000 in
theorem zGm (nn:Int) (w:World) :
 Calls Tryz.prog 171 #[.int .i64 nn] w fun e w'=>e=.returned (.bool (yV nn))∧w'=w:=by
 have HR:Hid (yV nn=(decide (nn=0)||(decide (nn=1)||(decide (nn=10)||decide (nn=11))))):=rfl;generalize yV nn=R at *;go_enter Tryz.func171,Tryz.ntmps171;by_cases h0:nn=0
 · subst h0;have HE:Hid (R=true):=by unfold Hid;rw[HR.out];simp
   go_wp2_with fail;go_ret;exact⟨zA0 HE.out.symm,rfl⟩
 have hb0:(nn==(0:Int))=false:=beq_eq_false_iff_ne.2 h0;by_cases h1:nn=1
 · subst h1;have HE:Hid (R=true):=by unfold Hid;rw[HR.out];simp
   go_wp2_with fail;go_ret;exact⟨zA0 HE.out.symm,rfl⟩
 have hb1:(nn==(1:Int))=false:=beq_eq_false_iff_ne.2 h1;by_cases h10:nn=10
 · subst h10;have HE:Hid (R=true):=by unfold Hid;rw[HR.out];simp
   go_wp2_with fail;go_ret;exact⟨zA0 HE.out.symm,rfl⟩
 have hb10:(nn==(10:Int))=false:=beq_eq_false_iff_ne.2 h10;by_cases h11:nn=11
 · subst h11;have HE:Hid (R=true):=by unfold Hid;rw[HR.out];simp
   go_wp2_with fail;go_ret;exact⟨zA0 HE.out.symm,rfl⟩
 have hb11:(nn==(11:Int))=false:=beq_eq_false_iff_ne.2 h11;have HE:Hid (R=false):=by unfold Hid;rw[HR.out];simp[h0,h1,h10,h11]
 go_wp2_with fail;go_ret;exact⟨zA0 HE.out.symm,rfl⟩
set_option maxRecDepth 100000 in
theorem zGH (nn:Int) (w:World) :
 Calls Tryz.prog 218 #[.int .i64 nn] w fun e w'=>e=.returned (.bool (yV nn))∧w'=w:=by
 have HR:Hid (yV nn=(decide (nn=0)||(decide (nn=1)||(decide (nn=10)||decide (nn=11))))):=rfl;generalize yV nn=R at *;go_enter Tryz.func218,Tryz.ntmps218;by_cases h0:nn=0
 · subst h0;have HE:Hid (R=true):=by unfold Hid;rw[HR.out];simp
   go_wp2_with fail;go_ret;exact⟨zA0 HE.out.symm,rfl⟩
 have hb0:(nn==(0:Int))=false:=beq_eq_false_iff_ne.2 h0;by_cases h1:nn=1
 · subst h1;have HE:Hid (R=true):=by unfold Hid;rw[HR.out];simp
   go_wp2_with fail;go_ret;exact⟨zA0 HE.out.symm,rfl⟩
 have hb1:(nn==(1:Int))=false:=beq_eq_false_iff_ne.2 h1;by_cases h10:nn=10
 · subst h10;have HE:Hid (R=true):=by unfold Hid;rw[HR.out];simp
   go_wp2_with fail;go_ret;exact⟨zA0 HE.out.symm,rfl⟩
 have hb10:(nn==(10:Int))=false:=beq_eq_false_iff_ne.2 h10;by_cases h11:nn=11
 · subst h11;have HE:Hid (R=true):=by unfold Hid;rw[HR.out];simp
   go_wp2_with fail;go_ret;exact⟨zA0 HE.out.symm,rfl⟩
 have hb11:(nn==(11:Int))=false:=beq_eq_false_iff_ne.2 h11;have HE:Hid (R=false):=by unfold Hid;rw[HR.out];simp[h0,h1,h10,h11]
 go_wp2_with fail;go_ret;exact⟨zA0 HE.out.symm,rfl⟩
end Go.Proofs.YtgmaamnofhmecaaGreatDoor
namespace Go.Proofs.YtgmaamnofhmecaaGreatDoor
open Go.RowKit
set_option linter.unusedVariables false
def zAk (d t:NodeD):Int:=zP0 d.name d.subs t.name t.subs
def zFX (fs:List NodeD) (t:NodeD):Nat:=(fs.takeWhile fun d=>decide (zAk d t<0)).length
def zBn (fs:List NodeD) (t:NodeD):Bool:=decide (zFX fs t<fs.length)&&decide (zAk (fs.getD (zFX fs t) default) t=0)
theorem zIi (fs:List NodeD) (t:NodeD):zFX fs t=atN fs t.name t.subs:=by
 unfold zFX atN
 congr 1
 congr 1
 funext d
 exact(zAR d t).symm
theorem zHA (fs:List NodeD) (t:NodeD):zBn fs t=wJ fs t.name t.subs:=by
 unfold zBn wJ;rw[zIi]
 congr 1
 unfold zDB zAk;rw[Bool.eq_iff_iff,decide_eq_true_iff,zGJ];simp
theorem zKg (fs:List NodeD) (t:NodeD) (i:Nat) (hi:i≤fs.length) (h1:∀j,j<i→zAk (fs.getD j default) t<0) (h2:i<fs.length→0≤zAk (fs.getD i default) t):zFX fs t=i:=by
 unfold zFX;refine yX _ fs i hi (fun j hj=>decide_eq_true (h1 j hj)) ?_;by_cases h:i<fs.length
 · exact .inr (decide_eq_false (by have:=h2 h;omega))
 · exact .inl (by omega)
theorem zHo {fs:List NodeD} (t:NodeD) (h:xA fs=true):∀i j,i≤j→j<fs.length→zAk (fs.getD j default) t<0→zAk (fs.getD i default) t<0:=by
 intro i j hij hj hc;have h1:vI (fs.getD j default) t=true:=by rw[zAR];exact decide_eq_true hc
 have h2:vI (fs.getD i default) t=true:=by
  by_cases e:i=j
  · subst e;exact h1
  · refine zGN ?_ h1;have h3:=zDf h (j-i-1) i (by omega)
    rwa [show i+(j-i-1)+1=j by omega]at h3
 rw[zAR]at h2;exact of_decide_eq_true h2
def zBb (k:Nat) (b:Bool) (w:World) (e:Ending) (w':World):Prop:=e=.returned (.tuple #[.int .i64 k,.bool b])∧Below w.heap.size w w'
theorem zKK {a b:Int} {x y:Bool} (h1:a=b) (h2:x=y):Ending.returned (.tuple #[.int .i64 a,.bool x])=.returned (.tuple #[.int .i64 b,.bool y]):=by rw[h1,h2]
set_option maxRecDepth 100000 in
theorem zDp (c0 c1 c2 d0 d1 d2:Value) (x y:NodeD) (w:World) (htab:uG w) (h:NodeR w w.heap.size c0 c1 c2 x) (h':NodeR w w.heap.size d0 d1 d2 y) (hs:x.small) (hs':y.small) :
 Calls Tryz.prog 266 #[.agg #[c0,c1,c2],.agg #[d0,d1,d2]] w fun e w'=>e=.returned (.int .i64 (zAk x y))∧Below w.heap.size w w':=by
 obtain⟨rfl,⟨A,n,c,rfl,h1,_⟩,rfl⟩:=h;obtain⟨rfl,⟨A',n',c',rfl,h1',_⟩,rfl⟩:=h';have hn:n≤1048576:=by rw[←h1.1];exact hs.2.1.1
 have hn':n'≤1048576:=by rw[←h1'.1];exact hs'.2.1.1
 have HK:=zh (fun W (hW:Below w.heap.size w W)=>wQ x.name y.name A A' n c n' c' x.subs y.subs W (wA htab hW) (h1.later hW) (h1'.later hW) hn hn' hs.2.1.2 hs'.2.1.2);have HE:Hid (zP0 x.name x.subs y.name y.subs=zAk x y):=rfl;clear h1 h1' htab hs hs';generalize zAk x y=R at *;generalize zP0 x.name x.subs y.name y.subs=z at *;generalize x.name=xn at *;generalize y.name=yn at *;generalize x.val=xv at *;generalize y.val=yv at *;go_enter Tryz.func266,Tryz.ntmps266;go_wp2_with fail;refine(HK.out _ ((Below.new _ _).later (Below.new _ _))).mono ?_;rintro e w1 ⟨rfl,hb1⟩;have HB1:=zh (((Below.new _ _).later (Below.new _ _)).later hb1);clear hb1;go_wp2_with fail;go_ret;exact⟨xB HE.out,HB1.out⟩
set_option maxRecDepth 100000 in
theorem zBT (A:Option Addr) (n c:Nat) (fs:List NodeD) (d0 d1 d2:Value) (t:NodeD) (w:World) (htab:uG w) (h:Nodes w w.heap.size A n fs) (hs:yC fs) (hr:NodeR w w.heap.size d0 d1 d2 t) (hst:t.small)
 (hmono:∀i j,i≤j→j<fs.length→zAk (fs.getD j default) t<0→zAk (fs.getD i default) t<0) :
 Calls Tryz.prog 265 #[.slice A n c,.agg #[d0,d1,d2],.func (.func 266) #[] #[]] w (zBb (zFX fs t) (zBn fs t) w):=by
 have eg:∀args w,(callFunc 266 args).run Tryz.prog w=.ok (.enter 266 args) w:=enters_of Tryz.func266 (by kernel_rfl) rfl;have Hh:=zh h;have Hlen:=zh h.1;have hn:n≤1048576:=by rw[←h.1];exact hs.1
 have Hs:=zh hs;have HT:=zh htab;have Hst:=zh hst;have HM:=zh hmono;have HR:=zh hr;obtain⟨rfl,⟨A',n',cap',rfl,h3',_⟩,rfl⟩:=hr;clear h hs htab hst hmono h3';go_enter Tryz.func265,Tryz.ntmps265;go_wp2_with fail;go_loopw [9,10] (fun i j wr=>∃(a b:Nat),a≤b∧b≤n∧i=.int .i64 a∧j=.int .i64 b∧Below (w.heap.size+1) (w.alloc (.cells #[.string t.name,.slice A' n' cap',.string t.val] 102)) wr∧Hid (∀k,k<a→zAk (fs.getD k default) t<0)∧Hid (∀k,b≤k→k<n→0≤zAk (fs.getD k default) t)) (fun i j _=>(intOf j).toNat-(intOf i).toNat);case atStart=>exact⟨0,n,by omega,by omega,rfl,rfl,Below.refl _ _,fun k hk=>absurd hk (by omega),fun k h1 h2=>absurd h2 (by omega)⟩
 case round =>
  obtain⟨a,b,hab,hbn,rfl,rfl,hb,hlo,hhi⟩:=hrel;have hbx:=(Blk.later (heap_alloc_new w _) hb (by omega));have hz0:w.heap.size<wr.heap.size:=hbx.lt;have HB:=zh hb;have HBw:=zh ((Below.new _ _).trans (hb.mono (by omega)));clear hb;by_cases hlt:a<b
  · obtain⟨m,hm⟩:∃m:Nat,m=(a+b) / 2:=⟨_,rfl⟩;have hma:a≤m:=by omega
    have hmb:m<b:=by omega
    have hmI:((a:Int)+(b:Int)) / 2=(m:Int):=by omega
    have hmn:(m:Int)<n:=by omega
    obtain⟨bb,o,rfl,hbB,hc'⟩:=(Hh.out.later HBw.out).2 (by omega);obtain⟨c0,c1,c2,k0,k1,k2,hrd⟩:=hc' m (by omega);clear hc';have hsm:=Hs.out.2 _ (zE0 fs m (by rw[Hlen.out];omega));have HD:Hid (fs.getD m default=fs.getD m default):=rfl;generalize hdd:fs.getD m default=d at *;have HDD:=zh hdd;clear hdd HD;have HKC:=zh (fun W (hW:Below wr.heap.size wr W)=>zDp c0 c1 c2 _ _ _ d t W (wA HT.out (HBw.out.later hW)) (hrd.later hW) (HR.out.later (HBw.out.later hW)) hsm Hst.out);obtain⟨e0,⟨A1,n1,cap1,e1,hs1,_⟩,e2⟩:=hrd;subst e0 e1 e2;clear hs1 hsm;have q0:=hbx.cell 0;have q1:=hbx.cell 1;have q2:=hbx.cell 2;simp at q0 q1 q2;clear hbx;generalize hyd:zAk d t=y at *;have HY:=zh hyd;clear hyd;clear hm;go_wp2_with fail;have hw1:IntKind.i64.wrap (m:Int)=(m:Int):=IntWalk.i64_in _ (by omega);have hw2:(0:Int)≤(m:Int):=by omega
    have hw3:((m:Int)).toNat=m:=by omega
    go_region_held3 (fun w'=>w'.cell? ⟨bb,o+m*3,none⟩=some (.string d.name)∧w'.cell? ⟨bb,o+m*3+1,none⟩=some (.slice A1 n1 cap1)∧w'.cell? ⟨bb,o+m*3+2,none⟩=some (.string d.val)∧w'.cell? ⟨w.heap.size,0,none⟩=some (.string t.name)∧w'.cell? ⟨w.heap.size,1,none⟩=some (.slice A' n' cap')∧w'.cell? ⟨w.heap.size,2,none⟩=some (.string t.val)) (first | exact⟨k0,k1,k2,q0,q1,q2⟩ | exact⟨cell_later hb2 k0,cell_later hb2 k1,cell_later hb2 k2,cell_later hb2 q0,cell_later hb2 q1,cell_later hb2 q2⟩)
     (first
       | (go_at_fn 266;refine(HKC.out _ (by exact(Below.refl _ _).drew)).mono ?_;rintro e w2 ⟨rfl,hb2'⟩;have hb2:=zD0 hb2';clear hb2'))
    have HB2:=zh (HB.out.trans (hb2.mono (by omega)));clear hw1 hw2 hw3 q0 q1 q2 hb2 k0 k1 k2;by_cases hy:y<0
    · go_wp2_with fail;go_roundw
      case rel=>exact⟨m+1,b,by omega,by omega,by go_num,rfl,HB2.out,fun k hk=>by
       rcases Nat.lt_or_ge k m with h | h
       · exact HM.out k m (by omega) (by rw[Hlen.out];omega) (by rw[HDD.out,HY.out];exact hy)
       · obtain rfl:k=m:=by omega
         rw[HDD.out,HY.out];exact hy,hhi⟩
      case measure=>simp[intOf];omega
    · go_wp2_with fail;go_roundw
      case rel=>exact⟨a,m,by omega,by omega,rfl,rfl,HB2.out,hlo,fun k hk hk2=>by
       rcases Int.lt_or_le (zAk (fs.getD k default) t) 0 with h | h
       · have:=HM.out m k hk (by rw[Hlen.out];omega) h;rw[HDD.out,HY.out]at this;omega
       · exact h⟩
      case measure=>simp[intOf];omega
  · obtain rfl:a=b:=by omega
    have hpos:zFX fs t=a:=zKg fs t a (by rw[Hlen.out];omega) hlo.out (fun h=>hhi.out a (Nat.le_refl _) (by rw[←Hlen.out];exact h));have HPos:=zh hpos;by_cases han:a<n
    · have HF:Hid (zBn fs t=decide (zAk (fs.getD a default) t=0)):=by unfold Hid zBn;rw[hpos,Hlen.out,decide_eq_true han];rfl
      clear hpos;obtain⟨bb,o,rfl,hbB,hc'⟩:=(Hh.out.later HBw.out).2 (by omega);obtain⟨c0,c1,c2,k0,k1,k2,hrd⟩:=hc' a (by omega);clear hc';have hsm:=Hs.out.2 _ (zE0 fs a (by rw[Hlen.out];omega));have HD:Hid (fs.getD a default=fs.getD a default):=rfl;generalize hdd:fs.getD a default=d at *;have HDD:=zh hdd;clear hdd HD;have HKC:=zh (fun W (hW:Below wr.heap.size wr W)=>zDp c0 c1 c2 _ _ _ d t W (wA HT.out (HBw.out.later hW)) (hrd.later hW) (HR.out.later (HBw.out.later hW)) hsm Hst.out);obtain⟨e0,⟨A1,n1,cap1,e1,hs1,_⟩,e2⟩:=hrd;subst e0 e1 e2;clear hs1 hsm;have q0:=hbx.cell 0;have q1:=hbx.cell 1;have q2:=hbx.cell 2;simp at q0 q1 q2;clear hbx;generalize hyd:zAk d t=y at *;have HY:=zh hyd;clear hyd;go_wp2_with fail;have hw1:IntKind.i64.wrap (a:Int)=(a:Int):=IntWalk.i64_in _ (by omega);have hw2:(0:Int)≤(a:Int):=by omega
      have hw3:((a:Int)).toNat=a:=by omega
      have hw4:(a:Int)<n:=by omega
      go_region_held3 (fun w'=>w'.cell? ⟨bb,o+a*3,none⟩=some (.string d.name)∧w'.cell? ⟨bb,o+a*3+1,none⟩=some (.slice A1 n1 cap1)∧w'.cell? ⟨bb,o+a*3+2,none⟩=some (.string d.val)∧w'.cell? ⟨w.heap.size,0,none⟩=some (.string t.name)∧w'.cell? ⟨w.heap.size,1,none⟩=some (.slice A' n' cap')∧w'.cell? ⟨w.heap.size,2,none⟩=some (.string t.val)) (first | exact⟨k0,k1,k2,q0,q1,q2⟩ | exact⟨cell_later hb2 k0,cell_later hb2 k1,cell_later hb2 k2,cell_later hb2 q0,cell_later hb2 q1,cell_later hb2 q2⟩)
       (first
         | (go_at_fn 266;refine(HKC.out _ (by exact(Below.refl _ _).drew)).mono ?_;rintro e w2 ⟨rfl,hb2'⟩;have hb2:=zD0 hb2';clear hb2'))
      have HB2:=zh (HBw.out.later hb2);clear hw1 hw2 hw3 hw4 q0 q1 q2 hb2 k0 k1 k2;go_wp2_with fail
      go_ret2
      unfold zBb;rw[HPos.out,HF.out];exact⟨zKK rfl (by rw[Bool.eq_iff_iff];simp),HB2.out⟩
    · have HF:Hid (zBn fs t=false):=by unfold Hid zBn;rw[hpos,Hlen.out,decide_eq_false han];rfl
      have hd1:decide ((a:Int)<(n:Int))=false:=by simp;omega
      have hd2:decide (a<n)=false:=by simp;omega
      clear hpos hbx;go_wp2_with fail
      go_quiet (fail)
      go_wp2_with fail
      go_ret2
      unfold zBb;rw[HPos.out,HF.out];exact⟨rfl,vA HBw.out _⟩
set_option maxRecDepth 100000 in
theorem zEw (A:Option Addr) (n c:Nat) (fs:List NodeD) (nm:ByteArray) (S:Option Addr) (m q:Nat) (ss:List ByteArray) (w:World) (htab:uG w) (h:Nodes w w.heap.size A n fs) (ht:xA fs=true) (hS:Strs w w.heap.size S m ss) (hmq:m≤q) (hd:(⟨nm,ss,ByteArray.empty⟩:NodeD).small) :
 Calls Tryz.prog 232 #[.agg #[.slice A n c],.string nm,.slice S m q] w (zBb (atN fs nm ss) (wJ fs nm ss) w):=by
 have HK:=zh (fun W (hW:Below w.heap.size w W)=>zBT A n c fs (.string nm) (.slice S m q) (.string ByteArray.empty) ⟨nm,ss,ByteArray.empty⟩ W (wA htab hW) (h.later hW) (zC0 ht) ⟨rfl,⟨S,m,q,rfl,hS.later hW,hmq⟩,rfl⟩ hd (zHo _ ht));have e1:=zIi fs ⟨nm,ss,ByteArray.empty⟩;have e2:=zHA fs ⟨nm,ss,ByteArray.empty⟩;simp only[e1,e2]at HK;clear h ht hS htab hd e1 e2;generalize atN fs nm ss=x at *;generalize wJ fs nm ss=y at *;go_enter Tryz.func232,Tryz.ntmps232;go_wp2_with fail;refine(HK.out _ (Below.new _ _)).mono ?_;rintro e w1 ⟨rfl,hb1⟩;have HB1:=zh ((Below.new _ _).later hb1);clear hb1;go_wp2_with fail
 go_ret2
 exact⟨rfl,HB1.out⟩
end Go.Proofs.YtgmaamnofhmecaaGreatDoor
