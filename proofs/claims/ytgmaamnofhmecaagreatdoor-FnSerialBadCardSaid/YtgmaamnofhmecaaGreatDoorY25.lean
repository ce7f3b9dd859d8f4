import Derived.Test.YtgmaamnofhmecaaGreatDoorY24
import Derived.Test.YtgmaamnofhmecaaGreatDoorY23
import Derived.Test.YtgmaamnofhmecaaGreatDoorY01
import Derived.Test.YtgmaamnofhmecaaGreatDoorY12
import Derived.Test.YtgmaamnofhmecaaGreatDoorY09
import Derived.Test.YtgmaamnofhmecaaGreatDoorY11
import Derived.Test.YtgmaamnofhmecaaGreatDoorY00
import Derived.Test.YtgmaamnofhmecaaGreatDoorY13
import Derived.Deep.RegionHeld3
import Derived.Lib.AppendIntMem
import Derived.Lib.Join
import Derived.Lib.SplitLaws
import Derived.Lib.TrimUEq
import Derived.Shelf.GgClosure.StringsIndexFuncTop
set_option linter.unusedSimpArgs false
set_option maxHeartbeats 2000000
namespace Go.Proofs.YtgmaamnofhmecaaGreatDoor
open Go.RowKit
set_option linter.unusedVariables false
set_option maxRecDepth 100000 in
theorem zBj (c0 c1 c2:Value) (A:Option Addr) (n c:Nat) (d:NodeD) (nm:ByteArray) (ss:List ByteArray) (w:World) (h:NodeR w w.heap.size c0 c1 c2 d) (h':Strs w w.heap.size A n ss) (hn:n≤1048576) :
 Calls Tryz.prog 233 #[.agg #[c0,c1,c2],.string nm,.slice A n c] w fun e w'=>e=.returned (.bool (inN nm ss d))∧Below w.heap.size w w':=by
 obtain⟨rfl,⟨A1,n1,p1,rfl,s1,k1⟩,rfl⟩:=h;have HR:Hid (inN nm ss d=(decide (d.name=nm)&&yB ss d.subs)):=rfl;have HK:=Lib.hid (zHM A1 A n1 p1 n c d.subs ss (w.alloc (.cells #[.string d.name,.slice A1 n1 p1,.string d.val] 102)) (s1.later (Below.new _ _)) (h'.later (Below.new _ _)) hn k1);clear s1 h';generalize inN nm ss d=R at *;generalize yB ss d.subs=x at *;generalize d.name=dn at *;generalize d.val=dv at *;by_cases he:dn=nm
 · subst he;have HE:Hid (R=x):=by unfold Hid;rw[HR.out];simp
   clear HR;go_enter Tryz.func233,Tryz.ntmps233;go_wp2_with fail;refine HK.out.mono ?_;rintro e w1 ⟨rfl,q,rfl⟩;go_wp2_with fail;go_ret;exact⟨zA0 HE.out.symm,vA (Below.new _ _) q⟩
 · have HE:Hid (R=false):=by unfold Hid;rw[HR.out];simp[he]
   have hb:=zG0 he;clear HR HK he;go_enter Tryz.func233,Tryz.ntmps233;go_wp2_with fail;go_ret;exact⟨zA0 HE.out.symm,Below.new _ _⟩
theorem zIl {fs:List NodeD} {nm:ByteArray} {ss:List ByteArray} (h:wJ fs nm ss=true):atN fs nm ss<fs.length:=by
 unfold wJ at h;rw[Bool.and_eq_true,decide_eq_true_eq]at h;exact h.1
set_option maxRecDepth 100000 in
theorem zKk (A:Option Addr) (n c:Nat) (fs:List NodeD) (nm:ByteArray) (S:Option Addr) (m q:Nat) (ss:List ByteArray) (w:World) (htab:uG w) (h:Nodes w w.heap.size A n fs) (ht:xA fs=true) (hS:Strs w w.heap.size S m ss) (hmq:m≤q) (hd:(⟨nm,ss,ByteArray.empty⟩:NodeD).small) :
 Calls Tryz.prog 181 #[.agg #[.slice A n c],.string nm,.slice S m q] w fun e w'=>e=.returned (.tuple #[.string (zAA fs nm ss),.bool (wJ fs nm ss)])∧Below w.heap.size w w':=by
 have HK:=Lib.hid (fun W (hW:Below w.heap.size w W)=>zEw A n c fs nm S m q ss W (wA htab hW) (h.later hW) ht (hS.later hW) hmq hd);have HN:=Lib.hid h;have hlt:wJ fs nm ss=true→atN fs nm ss<n:=fun hh=>by rw[←h.1];exact zIl hh
 have hn:n≤120:=by rw[←h.1];exact(tree_iff.1 ht).1
 have HG:Hid (zAA fs nm ss=if wJ fs nm ss=true then (fs.getD (atN fs nm ss) default).val else ⟨#[]⟩):=rfl;clear h ht hS htab hd;generalize zAA fs nm ss=R at *;generalize atN fs nm ss=x at *;generalize wJ fs nm ss=y at *;go_enter Tryz.func181,Tryz.ntmps181;go_wp2_with fail;refine(HK.out _ (by first | exact Below.refl _ _ | exact Below.new _ _)).mono ?_;rintro e w1 ⟨rfl,hb1⟩;have HB1:Hid (Below w.heap.size w w1):=by first | exact(Below.new _ _).later hb1 | exact hb1
 have p0:=zDM hb1 0;simp at p0;clear hb1;cases y
 · have HE:Hid (R=ByteArray.empty):=HG.out;go_wp2_with fail
   go_ret2
   exact⟨by rw[HE.out];rfl,HB1.out⟩
 · have hxn:=hlt rfl;have HE:Hid (R=(fs.getD x default).val):=HG.out;obtain⟨bb,o,rfl,hbB,hc⟩:=(HN.out.later HB1.out).2 (by omega);obtain⟨c0,c1,c2,k0,k1,k2,hr⟩:=hc x hxn;obtain⟨_,_,rfl⟩:=hr;clear hc hlt k0 k1;generalize (fs.getD x default).val=vl at *;go_wp2_with fail
   go_ret2
   exact⟨by rw[HE.out];rfl,HB1.out⟩
end Go.Proofs.YtgmaamnofhmecaaGreatDoor
namespace Go.Proofs.YtgmaamnofhmecaaGreatDoor
open Go.RowKit
theorem zIc (a b:ByteArray) (w:World) (htab:uG w) (ha:a.size≤1048576) (hb:b.size≤1048576) :
 Calls Tryz.prog 234 #[.string a,.string b] w fun e w'=>e=.returned (.bool (uA a b))∧Below w.heap.size w w':=by
 have HK:=Lib.hid (zCA a b w htab ha hb);have hR:=zCZ a b;generalize uA a b=R at *;generalize zAG a b=y at *;have HR:=Lib.hid hR;clear hR;go_enter Tryz.func234,Tryz.ntmps234;go_wp2_with fail;refine HK.out.mono ?_;rintro e w1 ⟨rfl,hb1⟩;have HB:=Lib.hid hb1;clear hb1;go_wp2_with fail;go_ret;exact⟨zA0 HR.out,HB.out⟩
end Go.Proofs.YtgmaamnofhmecaaGreatDoor
