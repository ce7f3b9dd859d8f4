import Derived.Test.YtfpcjhajjejpdaaGreatDoorZ16
import Derived.Test.YtfpcjhajjejpdaaGreatDoorZ25
import Derived.Test.YtfpcjhajjejpdaaGreatDoorZ08
import Derived.Test.YtfpcjhajjejpdaaGreatDoorZ17
import Derived.Test.YtfpcjhajjejpdaaGreatDoorZ13
import Derived.Deep.AppendLies
import Derived.Deep.RegionLaw
set_option maxHeartbeats 4000000
open Go.Lib renaming hid → zh
namespace Go.Proofs.YtfpcjhajjejpdaaGreatDoor
open Go.RowKit
set_option linter.unusedVariables false
def ChgR (w:World) (B:Nat) (c0 c1 c2 c3:Value) (d:ChgD):Prop :=
 c0=.int .i64 d.kind∧c1=.string d.name∧(∃A n cap,c2=.slice A n cap∧Strs w B A n d.subs∧n≤cap)∧c3=.string d.val
theorem ChgR.keep {w w':World} {B:Nat} {c0 c1 c2 c3:Value} {d:ChgD} (h:ChgR w B c0 c1 c2 c3 d) (hk:∀p:Addr,p.block<B→w'.cell? p=w.cell? p):ChgR w' B c0 c1 c2 c3 d:=by
 obtain⟨e0,e1,⟨A1,n1,p1,e2,s1,k1⟩,e3⟩:=h;exact⟨e0,e1,⟨A1,n1,p1,e2,s1.keep hk,k1⟩,e3⟩
theorem ChgR.more {w:World} {B B':Nat} {c0 c1 c2 c3:Value} {d:ChgD} (h:ChgR w B c0 c1 c2 c3 d) (hB:B≤B'):ChgR w B' c0 c1 c2 c3 d:=by
 obtain⟨e0,e1,⟨A1,n1,p1,e2,s1,k1⟩,e3⟩:=h;exact⟨e0,e1,⟨A1,n1,p1,e2,s1.more hB,k1⟩,e3⟩
theorem ChgR.later {w w':World} {c0 c1 c2 c3:Value} {d:ChgD} (h:ChgR w w.heap.size c0 c1 c2 c3 d) (hb:Below w.heap.size w w'):ChgR w' w'.heap.size c0 c1 c2 c3 d :=
 (h.keep fun _ hp=>hb.cell hp).more hb.size
def Chgs (w:World) (B:Nat) (A:Option Addr) (n:Nat) (fs:List ChgD):Prop :=
 fs.length=n∧(0<n→∃b o,A=some ⟨b,o,none⟩∧b<B∧∀j,j<n→∃c0 c1 c2 c3,w.cell? ⟨b,o+j*4,none⟩=some c0∧w.cell? ⟨b,o+j*4+1,none⟩=some c1∧w.cell? ⟨b,o+j*4+2,none⟩=some c2∧w.cell? ⟨b,o+j*4+3,none⟩=some c3∧ChgR w B c0 c1 c2 c3 (fs.getD j default))
section
variable {w w':World} {B B' n:Nat} {A:Option Addr} {fs:List ChgD}
theorem Chgs.keep (h:Chgs w B A n fs) (hk:∀p:Addr,p.block<B→w'.cell? p=w.cell? p):Chgs w' B A n fs :=
 ⟨h.1,fun hn=>by
   obtain⟨b,o,e,hb,hc⟩:=h.2 hn;refine⟨b,o,e,hb,fun j hj=>?_⟩;obtain⟨c0,c1,c2,c3,h0,h1,h2,h3,hr⟩:=hc j hj
   exact⟨c0,c1,c2,c3,(hk _ hb).trans h0,(hk _ hb).trans h1,(hk _ hb).trans h2,(hk _ hb).trans h3,hr.keep hk⟩⟩
theorem Chgs.more (h:Chgs w B A n fs) (hB:B≤B'):Chgs w B' A n fs :=
 ⟨h.1,fun hn=>by
   obtain⟨b,o,e,hb,hc⟩:=h.2 hn;refine⟨b,o,e,by omega,fun j hj=>?_⟩;obtain⟨c0,c1,c2,c3,h0,h1,h2,h3,hr⟩:=hc j hj
   exact⟨c0,c1,c2,c3,h0,h1,h2,h3,hr.more hB⟩⟩
theorem Chgs.later (h:Chgs w w.heap.size A n fs) (hb:Below w.heap.size w w'):Chgs w' w'.heap.size A n fs:=(h.keep fun _ hp=>hb.cell hp).more hb.size
end
def ChgD.small (d:ChgD):Prop:=d.name.size≤1048576∧(d.subs.length≤1048576∧∀s∈d.subs,s.size≤1048576)∧d.val.size≤1048576
def NodesO (w:World) (base:Nat) (v:Value) (fs:List NodeD):Prop:=∃vs,Own.OwnL zGv w base 83 v fs vs
def zCj:Own.Kind ChgD:=⟨4,fun d v=>[.int .i64 d.kind,.string d.name,v,.string d.val],fun d=>d.subs,fun _ _=>rfl,by decide⟩
def ChgsO (w:World) (base:Nat) (v:Value) (fs:List ChgD):Prop:=∃vs,Own.OwnL zCj w base 88 v fs vs
theorem zKE:(Tryz.prog.info? 88).map (fun i=>(i.zero,i.size,i.bytes))=some (some (.agg #[.int .i64 0,.string .empty,.slice none 0 0,.string .empty]),4,64):=by kernel_rfl
theorem NodesO.later {w w':World} {base:Nat} {v:Value} {fs:List NodeD} (h:NodesO w base v fs) (hb:Below w.heap.size w w'):NodesO w' base v fs:=by
 obtain⟨vs,h1⟩:=h;exact⟨vs,h1.later hb⟩
theorem ChgsO.later {w w':World} {base:Nat} {v:Value} {fs:List ChgD} (h:ChgsO w base v fs) (hb:Below w.heap.size w w'):ChgsO w' base v fs:=by
 obtain⟨vs,h1⟩:=h;exact⟨vs,h1.later hb⟩
theorem NodesO.base {w:World} {base base':Nat} {v:Value} {fs:List NodeD} (h:NodesO w base' v fs) (hb:base≤base'):NodesO w base v fs:=by
 obtain⟨vs,h1⟩:=h;exact⟨vs,h1.base hb⟩
theorem ChgsO.base {w:World} {base base':Nat} {v:Value} {fs:List ChgD} (h:ChgsO w base' v fs) (hb:base≤base'):ChgsO w base v fs:=by
 obtain⟨vs,h1⟩:=h;exact⟨vs,h1.base hb⟩
theorem NodesO.reads {w:World} {base:Nat} {v:Value} {fs:List NodeD} (h:NodesO w base v fs):∃A cap,v=.slice A fs.length cap∧fs.length≤cap∧Nodes w w.heap.size A fs.length fs:=by
 obtain⟨vs,h1⟩:=h;exact OwnL.Nodes h1
theorem ChgsO.reads {w:World} {base:Nat} {v:Value} {fs:List ChgD} (h:ChgsO w base v fs):∃A cap,v=.slice A fs.length cap∧fs.length≤cap∧Chgs w w.heap.size A fs.length fs:=by
 obtain⟨vs,h⟩:=h;obtain⟨A,cap,rfl,hc,_,hA⟩:=Own.own_slice h.row;refine⟨A,cap,rfl,hc,rfl,fun hn=>?_⟩;obtain⟨g,rfl,hg,_⟩:=hA hn;refine⟨g,0,rfl,hg,fun j hj=>?_⟩;have h0:=h.cellAt rfl j 0 hj (by decide);have h1:=h.cellAt rfl j 1 hj (by decide);have h2:=h.cellAt rfl j 2 hj (by decide);have h3:=h.cellAt rfl j 3 hj (by decide);obtain⟨A1,cap1,e1,hc1,hs1⟩:=(h.subs j hj).strs;refine⟨_,_,_,_,by rw[Nat.zero_add];exact h0,by rw[Nat.zero_add];exact h1,by rw[Nat.zero_add];exact h2,by rw[Nat.zero_add];exact h3,rfl,rfl,⟨A1,_,cap1,e1,hs1,hc1⟩,rfl⟩
theorem zHZ (w:World) (base:Nat) (h:base≤w.heap.size):NodesO (w.alloc (.cells #[] 83)) base (.slice (some ⟨w.heap.size,0,none⟩) 0 0) [] :=
 ⟨[],rfl,World.ownsRow_lit (e:=83) (size:=3) w #[] 0 h (by omega) rfl,fun j hj=>by simp at hj,List.Pairwise.nil⟩
theorem xH (w:World) (base:Nat):NodesO w base (.slice none 0 0) []:=⟨[],Own.OwnL.nil _ _ _⟩
theorem uY (w:World) (base:Nat) (h:base≤w.heap.size):ChgsO (w.alloc (.cells #[] 88)) base (.slice (some ⟨w.heap.size,0,none⟩) 0 0) [] :=
 ⟨[],rfl,World.ownsRow_lit (e:=88) (size:=4) w #[] 0 h (by omega) rfl,fun j hj=>by simp at hj,List.Pairwise.nil⟩
def zKg (fs:List NodeD) (w:World) (e:Ending) (w':World):Prop:=∃v,e=.returned v∧NodesO w' w.heap.size v fs∧Below w.heap.size w w'
theorem CellsG.append {α:Type} {sz:Nat} {R:List Value→α→Prop}:∀{fs gs:List α} {cs ds:List Value},CellsG sz R fs cs→CellsG sz R gs ds→CellsG sz R (fs++gs) (cs++ds)
 | [],gs,cs,ds,h,h'=>by have h:cs=[]:=h;subst h;exact h'
 | f::r,gs,cs,ds,h,h'=>by obtain⟨c,cs',rfl,hl,hd,hr⟩:=h;exact⟨c,cs'++ds,by rw[List.append_assoc],hl,hd,CellsG.append hr h'⟩
theorem CellsG.drop {α:Type} {sz:Nat} {R:List Value→α→Prop}:∀{fs:List α} {cs:List Value} (k:Nat),CellsG sz R fs cs→CellsG sz R (fs.drop k) (cs.drop (k*sz))
 | [],cs,k,h=>by have h:cs=[]:=h;subst h;simp[CellsG]
 | d::r,cs,0,h=>by simpa using h
 | d::r,cs,k+1,h=>by obtain⟨c,cs',rfl,hl,hd,hr⟩:=h;rw[show(k+1)*sz=c.length+k*sz by rw[hl,Nat.add_mul];omega,List.drop_length_add_append,List.drop_succ_cons];exact CellsG.drop k hr
def zAe (r:Int × List NodeD) (w:World) (e:Ending) (w':World):Prop:=∃v,e=.returned (.tuple #[.agg #[v],.int .i64 r.1])∧NodesO w' w.heap.size v r.2∧Below w.heap.size w w'
def zKQ (r:Int × List ChgD) (w:World) (e:Ending) (w':World):Prop:=∃v,e=.returned (.tuple #[v,.int .i64 r.1])∧ChgsO w' w.heap.size v r.2∧Below w.heap.size w w'
def zHr (fs:List NodeD) (w:World) (e:Ending) (w':World):Prop:=∃v,e=.returned (.agg #[v])∧NodesO w' w.heap.size v fs∧Below w.heap.size w w'
def zEG (cs:List ChgD) (w:World) (e:Ending) (w':World):Prop:=∃v,e=.returned v∧ChgsO w' w.heap.size v cs∧Below w.heap.size w w'
end Go.Proofs.YtfpcjhajjejpdaaGreatDoor
namespace Go.Proofs.YtfpcjhajjejpdaaGreatDoor
open Go.RowKit
set_option linter.unusedVariables false
theorem zGO (A A':Option Addr) (n c n' c':Nat) (ss ts:List ByteArray) (w:World) (h:Strs w w.heap.size A n ss) (h':Strs w w.heap.size A' n' ts) (hn:n≤1048576) (hn':n'≤1048576) :
 Calls Tryz.prog 145 #[.slice A n c,.slice A' n' c'] w fun e w'=>e=.returned (.bool (eqS ss ts))∧∃q,w'=w.drewN q:=by
 obtain⟨hlen,hc⟩:=h;obtain⟨hlen',hc'⟩:=h';have hE:=zBL ss ts;rw[hlen,hlen']at hE;have Hc:=zh hc;have Hlen:=zh hlen;have Hc':=zh hc';have Hlen':=zh hlen';clear hc hlen hc' hlen';by_cases hne:n=n'
 · subst hne;have HE:Hid (eqS ss ts=xF ss ts):=by unfold Hid;rw[←hE];simp
   clear hE;generalize eqS ss ts=R at *;go_enter Tryz.func145,Tryz.ntmps145;go_wp2_with fail;go_loopw [5] (fun i wr=>∃(k:Nat),k≤n∧i=.int .i64 k∧(∃q,wr=w.drewN q)∧Hid (xF ss ts=xF (ss.drop k) (ts.drop k))) (fun i _=>n-(intOf i).toNat);case atStart=>exact⟨0,Nat.zero_le _,rfl,⟨0,rfl⟩,rfl⟩
   case round =>
    obtain⟨k,hk,rfl,⟨q,rfl⟩,hS⟩:=hrel;by_cases hlt:k<n
    · obtain⟨b,o,rfl,hb,hcell⟩:=Hc.out (by omega);obtain⟨b',o',rfl,hb',hcell'⟩:=Hc'.out (by omega);have hck:=hcell k hlt;have hck':=hcell' k (by omega);clear hcell hcell';have HS:=zh (zBR ss ts k (by rw[Hlen.out];exact hlt) (by rw[Hlen'.out];omega));generalize ss.getD k ByteArray.empty=s at *;generalize ts.getD k ByteArray.empty=t at *;go_wp2_with fail
      go_quiet (fail)
      go_wp2_with fail
      · go_ret;have hst:s≠t:=zHF (by assumption);exact⟨zA0 (by rw[HE.out,hS.out,HS.out,decide_eq_false hst];rfl),_,World.drewN_drewN _ _ _⟩
      · go_roundw;case rel=>have hst:s=t:=zHG (by assumption);exact⟨k+1,by omega,by go_num,⟨_,rfl⟩,by unfold Hid;rw[hS.out,HS.out,decide_eq_true hst];rfl⟩
        case measure=>simp[intOf];omega
    · go_wp2_with fail;go_ret;exact⟨zA0 (by rw[HE.out,hS.out,List.drop_of_length_le (by rw[Hlen.out];omega),zCZ]),_,rfl⟩
 · have HE:Hid (false=eqS ss ts):=by unfold Hid;rw[←hE];simp[hne]
   have hb:((n:Int)==(n':Int))=false:=by rw[beq_eq_false_iff_ne];omega
   have hb2:(n==n')=false:=by rw[beq_eq_false_iff_ne];omega
   clear hE hne;go_enter Tryz.func145,Tryz.ntmps145;go_wp2_with fail;go_ret;exact⟨zA0 HE.out,0,rfl⟩
theorem zCn (A A':Option Addr) (n c n' c':Nat) (ss ts:List ByteArray) (w:World) (h:Strs w w.heap.size A n ss) (h':Strs w w.heap.size A' n' ts) (hn:n≤1048576) (hn':n'≤1048576) :
 Calls Tryz.prog 82 #[.slice A n c,.slice A' n' c'] w fun e w'=>e=.returned (.bool (eqS ss ts))∧∃q,w'=w.drewN q:=by
 have HK:=zh (zGO A A' n c n' c' ss ts w h h' hn hn');clear h h';generalize eqS ss ts=x at *;go_enter Tryz.func82,Tryz.ntmps82;go_wp2_with fail;refine HK.out.mono ?_;rintro e w1 ⟨rfl,q,rfl⟩;go_wp2_with fail;go_ret;exact⟨rfl,q,rfl⟩
set_option maxRecDepth 100000 in
theorem zGL (A:Option Addr) (n c:Nat) (ss:List ByteArray) (w:World) (h:Strs w w.heap.size A n ss) (hn:n≤1048576) :
 Calls Tryz.prog 146 #[.slice A n c] w fun e w'=>∃A' c',e=.returned (.slice A' n c')∧n≤c'∧Own.SubO w' w.heap.size (.slice A' n c') ss∧Below w.heap.size w w':=by
 have HN:=zh h.1;obtain⟨i0,hi,hz0,hz1,hz2⟩:=info_parts zAu;have Hh:=zh (zHE h);clear h;go_enter Tryz.func146,Tryz.ntmps146;go_wp2_with (at_builtin;refine vG _ rfl (.tmp 3) (.tmp 4) 27 rfl w.heap.size 9 i0 _ 1 16 Tryz.underlying27 hi hz0 hz1 hz2 rfl (by decide) _ 0 [] rfl (World.ownsRow_lit _ _ 0 (Nat.le_refl _) (by omega) rfl) w.heap.size A n c (ss.map Value.string) rfl (Hh.out.alloc (Nat.le_refl _) _) (zAm ss) ?c1 ?c2 ?c3 ?_);case c1=>unfold maxLen;omega
 case c2=>omega
 case c3=>simp
 intro v w1 ho hg _;have HB:=zh (xK (w0:=w) (size:=1) (n:=0) (xs:=[]) (Below.new _ _) (World.ownsRow_lit _ _ 0 (Nat.le_refl _) (by omega) rfl) (Nat.le_refl _) hg);obtain⟨A',c',rfl,hc,_,_⟩:=Own.own_slice ho;have HS:=zh ho;clear ho hg;go_wp2_with fail;go_ret;exact⟨A',c',rfl,hc,by unfold Own.SubO;rw[HN.out];exact HS.out,HB.out⟩
theorem zEP (A A':Option Addr) (n c n' c':Nat) (ss ts:List ByteArray) (w:World) (h:Strs w w.heap.size A n ss) (h':Strs w w.heap.size A' n' ts) (hn':n'≤1048576) (hc:n≤c) :
 Calls Tryz.prog 217 #[.slice A n c,.slice A' n' c'] w fun e w'=>e=.returned (.bool (xF ts ss))∧∃q,w'=w.drewN q:=by
 have hE:=zBQ ts ss;rw[h.1,h'.1]at hE;by_cases hle:n'≤n
 · have HK:=zh (zCn A A' n' c n' c' (ss.take n') ts w (h.take n' hle) h' (by omega) hn');have HE:Hid (eqS (ss.take n') ts=xF ts ss):=by unfold Hid;rw[←hE];simp[hle]
   clear h h' hE;generalize eqS (ss.take n') ts=x at *;go_enter Tryz.func217,Tryz.ntmps217;go_wp2_with fail;refine HK.out.mono ?_;rintro e w1 ⟨rfl,q,rfl⟩;go_wp2_with fail;go_ret;exact⟨zA0 HE.out,q,rfl⟩
 · have HE:Hid (false=xF ts ss):=by unfold Hid;rw[←hE];simp[hle]
   clear h h' hE;go_enter Tryz.func217,Tryz.ntmps217;go_wp2_with fail;go_ret;exact⟨zA0 HE.out,0,rfl⟩
theorem zJB (c0 c1 c2:Value) (A:Option Addr) (n c:Nat) (d:NodeD) (nm:ByteArray) (ss:List ByteArray) (w:World) (h:NodeR w w.heap.size c0 c1 c2 d) (h':Strs w w.heap.size A n ss) (hn:n≤1048576) :
 Calls Tryz.prog 186 #[.agg #[c0,c1,c2],.string nm,.slice A n c] w fun e w'=>e=.returned (.bool (inN nm ss d))∧Below w.heap.size w w':=by
 obtain⟨rfl,⟨A1,n1,p1,rfl,s1,k1⟩,rfl⟩:=h;have HR:Hid (inN nm ss d=(decide (d.name=nm)&&xF ss d.subs)):=rfl;have HK:=zh (zEP A1 A n1 p1 n c d.subs ss (w.alloc (.cells #[.string d.name,.slice A1 n1 p1,.string d.val] 83)) (s1.later (Below.new _ _)) (h'.later (Below.new _ _)) hn k1);clear s1 h';generalize inN nm ss d=R at *;generalize xF ss d.subs=x at *;generalize d.name=dn at *;generalize d.val=dv at *;by_cases he:dn=nm
 · subst he;have HE:Hid (R=x):=by unfold Hid;rw[HR.out];simp
   clear HR;go_enter Tryz.func186,Tryz.ntmps186;go_wp2_with fail;refine HK.out.mono ?_;rintro e w1 ⟨rfl,q,rfl⟩;go_wp2_with fail;go_ret;exact⟨zA0 HE.out.symm,vA (Below.new _ _) q⟩
 · have HE:Hid (R=false):=by unfold Hid;rw[HR.out];simp[he]
   have hb:=uC he;clear HR HK he;go_enter Tryz.func186,Tryz.ntmps186;go_wp2_with fail;go_ret;exact⟨zA0 HE.out.symm,Below.new _ _⟩
end Go.Proofs.YtfpcjhajjejpdaaGreatDoor
namespace Go.Proofs.YtfpcjhajjejpdaaGreatDoor
open Go.RowKit
set_option linter.unusedVariables false
set_option maxRecDepth 100000 in
theorem zAG (A:Option Addr) (n c:Nat) (fs:List NodeD) (w:World) (h:Nodes w w.heap.size A n fs) (hs:vF fs) :
 Calls Tryz.prog 83 #[.slice A n c] w (zKg fs w):=by
 obtain⟨i0,hi,hz0,hz1,hz2⟩:=info_parts zAv;have Hh:=zh h;have Hlen:=zh h.1;have Hsm:=zh hs.2;have hn:n≤1048576:=by rw[←h.1];exact hs.1
 clear h hs;go_enter Tryz.func83,Tryz.ntmps83;go_wp2_with fail;go_loopw [3,4] (fun v i wr=>∃(k:Nat),k≤n∧i=.int .i64 k∧NodesO wr w.heap.size v (fs.take k)∧Below w.heap.size w wr) (fun _ i _=>n-(intOf i).toNat);case atStart=>exact⟨0,Nat.zero_le _,rfl,zHZ w _ (Nat.le_refl _),Below.new _ _⟩
 case round =>
  obtain⟨k,hk,rfl,⟨vs,hown⟩,hb⟩:=hrel;have HB:=zh hb;obtain⟨g,cap,rfl,_,_,_⟩:=Own.own_slice hown.row;have HO:=zh hown;clear hb hown;by_cases hlt:k<n
  · have hl:k<fs.length:=by rw[Hlen.out];exact hlt
    obtain⟨bb,o,rfl,hbB,hcn⟩:=(Hh.out.later HB.out).2 (by omega);obtain⟨c0,c1,c2,k0,k1,k2,hr⟩:=hcn k hlt;clear hcn;have hsd:=Hsm.out _ (wB fs k hl);have HT:Hid (fs.take (k+1)=fs.take k++[fs.getD k default]):=by unfold Hid;rw[List.take_succ_eq_append_getElem hl,List.getD_eq_getElem?_getD,List.getElem?_eq_getElem hl,Option.getD_some]
    have htl:(fs.take k).length=k:=by rw[List.length_take];omega
    rw[htl];have hrw:=HO.out.row;rw[htl]at hrw;have HRW:=zh hrw;have HTL:=zh htl;clear htl hrw;generalize fs.getD k default=d at *;obtain⟨rfl,⟨A1,n1,p1,rfl,s1,q1⟩,rfl⟩:=hr;have hn1:n1≤1048576:=by rw[←s1.1];exact hsd.2.1.1
    have HKS:=zh (fun W (hW:Below wr.heap.size wr W)=>zGL A1 n1 p1 d.subs W (s1.later hW) hn1);generalize hdn:d.name=dn at *;generalize hdv:d.val=dv at *;have HDN:=zh hdn;have HDV:=zh hdv;clear s1 hsd hdn hdv;go_wp2_with fail
    go_region_law (first
     | (refine step_append_lies _ (by rfl) _ _ _ (by rfl) w.heap.size 83 i0 _ 3 56 Tryz.underlying24 hi hz0 hz1 hz2 rfl (by omega) (.slice g k cap) k (Own.flat zGv (fs.take k) vs) (by rfl) (by exact HRA.out)
         ⟨w4.heap.size,0,none⟩ 1 1 [.string dn,.slice A2 n1 c2,.string dv] (by rfl) (by rfl) (by exact zO0 w4 #[.string dn,.slice A2 n1 c2,.string dv] _) (by simp[Value.oneCell'])
         (by omega) (by unfold maxLen;omega) (by omega) (by simp;omega) (w4.heap.size+1) (by simp) ?_
        intro gg cap' w5 hown5 hgrow5 hat hlt2;have HOW:=zh hown5;have HGR:=zh hgrow5
        clear hown5 hgrow5)
     | (go_simp
        go_at_call 146;refine(HKS.out _ (by exact(Below.refl _ _).drew)).mono ?_;rintro e w4 ⟨A2,c2,rfl,hq2,hs2,hb4'⟩;have hb4:=xC hb4';have HS2:=zh hs2;have HB4:=zh hb4;have j0:=cell_later hb4 k0;have j2:=cell_later hb4 k2;have hsz4:=hb4.size;have hsz0:=HB.out.size;have HRA:=zh (Own.own_later (Own.own_later HRW.out hb4) (Below.new w4 (.cells #[.string dn,.slice A2 n1 c2,.string dv] 83)))
        clear hb4 hb4' hs2))
    all_goals
     have HN4:=zh (HB4.out.later (Below.new w4 (.cells #[.string dn,.slice A2 n1 c2,.string dv] 83)));have HN5:Hid (Below w.heap.size w w5):=((HB.out.later HN4.out)).grown HGR.out (by simp;omega) (fun g' hg'=>(World.ownsRow.lt HRA.out g' hg').1);have HO5:Hid (Own.OwnL zGv w5 w.heap.size 83 (.slice (some ⟨gg,0,none⟩) (k+1) cap') (fs.take (k+1)) (vs++[.slice A2 n1 c2])):=by unfold Hid;rw[HT.out];refine Own.OwnL.snoc (HO.out.later HN4.out) (Own.own_later (Own.own_base HS2.out (show w.heap.size≤wr.heap.size by omega)) (Below.new _ _)) (HO.out.fresh HS2.out (by simp)) ?_ (by rw[HTL.out];exact HGR.out) (by decide);rw[HTL.out];have hx:=HOW.out;rw[←HDN.out,←HDV.out]at hx;exact hx
     clear j0 j2 k0 k1 k2;go_wp2_with fail;go_roundw;case rel=>exact⟨k+1,by omega,by go_num,⟨_,HO5.out⟩,HN5.out⟩
     case measure=>simp[intOf];omega
  · go_wp2_with fail;go_ret;have ht:fs.take k=fs:=List.take_of_length_le (by rw[Hlen.out];omega);have hx:Own.OwnL zGv wr w.heap.size 83 (.slice g (fs.take k).length cap) fs vs:=by have h2:=HO.out;generalize (Value.slice g (fs.take k).length cap)=V at h2 ⊢;rw[ht]at h2;exact h2
    exact⟨_,rfl,⟨vs,hx⟩,HB.out⟩
end Go.Proofs.YtfpcjhajjejpdaaGreatDoor
namespace Go.Proofs.YtfpcjhajjejpdaaGreatDoor
open Go.RowKit
set_option linter.unusedVariables false
set_option maxRecDepth 100000 in
theorem zJD (A:Option Addr) (n c:Nat) (fs:List NodeD) (nm:ByteArray) (S:Option Addr) (m q:Nat) (ss:List ByteArray) (w:World) (h:Nodes w w.heap.size A n fs) (hs:vF fs) (h':Strs w w.heap.size S m ss) (hm:m≤1048576) (hz:∀s∈ss,s.size≤1048576) :
 Calls Tryz.prog 196 #[.agg #[.slice A n c],.string nm,.slice S m q] w fun e w'=>e=.returned (.tuple #[.int .i64 (atN fs nm ss:Nat),.bool (zAR fs nm ss)])∧Below w.heap.size w w':=by
 have Hh:=zh h;have Hlen:=zh h.1;have hn:n≤1048576:=by rw[←h.1];exact hs.1
 have Hs:=zh hs;have Hst:=zh h';have Hz:=zh hz;have HAT:Hid (∀k,k≤n→(∀j,j<k→zAc nm ss (fs.getD j default)=true)→(k=n∨zAc nm ss (fs.getD k default)=false)→atN fs nm ss=k):=fun k h1 h2 h3=>zLT (by rw[h.1];exact h1) h2 (by rw[h.1];exact h3);have HHS:Hid (zAR fs nm ss=(decide (atN fs nm ss<n)&&zHa nm ss (fs.getD (atN fs nm ss) default))):=by unfold Hid zAR;rw[h.1]
 clear h hs h' hz;generalize atN fs nm ss=AT at *;generalize zAR fs nm ss=HS at *;go_enter Tryz.func196,Tryz.ntmps196;go_wp2_with fail;go_loopw [8] (fun i wr=>∃(k:Nat),k≤n∧i=.int .i64 k∧Below (w.heap.size+1) (w.alloc (.cells #[.slice A n c] 26)) wr∧Hid (∀j,j<k→zAc nm ss (fs.getD j default)=true)) (fun i _=>n-(intOf i).toNat);case atStart=>exact⟨0,Nat.zero_le _,rfl,Below.refl _ _,fun j hj=>absurd hj (by omega)⟩
 case round =>
  obtain⟨k,hk,rfl,hb,hA⟩:=hrel;have p0:=(Blk.later (heap_alloc_new w _) hb (by omega)).cell 0;have hz0:w.heap.size<wr.heap.size:=by have:=hb.size;simp at this;omega
  have HB:=zh hb;have HBw:=zh ((Below.new _ _).trans (hb.mono (by omega)));clear hb;by_cases hlt:k<n
  · obtain⟨bb,o,rfl,hbB,hc⟩:=(Hh.out.later HBw.out).2 (by omega);obtain⟨c0,c1,c2,k0,k1,k2,hr⟩:=hc k hlt;clear hc k2;have hsm:=Hs.out.2 _ (wB fs k (by rw[Hlen.out];exact hlt));have HAK:Hid (zAc nm ss (fs.getD k default)=zAd (fs.getD k default).name (fs.getD k default).subs nm ss):=rfl;have HHR:Hid (zHa nm ss (fs.getD k default)=(decide ((fs.getD k default).name=nm)&&eqS (fs.getD k default).subs ss)):=rfl;generalize hd:fs.getD k default=d at *;have HD:=zh hd;obtain⟨rfl,⟨A1,n1,q1,rfl,s1,_⟩,rfl⟩:=hr;have hn1:n1≤1048576:=by rw[←s1.1];exact hsm.2.1.1
    have HKL:=zh (fun W (hW:Below wr.heap.size wr W)=>zDg d.name nm A1 S n1 q1 m q d.subs ss W (s1.later hW) (Hst.out.later (HBw.out.later hW)) hn1 hm hsm.2.1.2 Hz.out);have HKS:=zh (fun W (hW:Below wr.heap.size wr W)=>zCn A1 S n1 q1 m q d.subs ss W (s1.later hW) (Hst.out.later (HBw.out.later hW)) hn1 hm);clear s1 hsm hd;generalize zAd d.name d.subs nm ss=y at *;generalize eqS d.subs ss=z at *;generalize d.name=dn at *;go_wp2_with fail
    go_region_held3 (fun w'=>w'.cell? ⟨w.heap.size,0,none⟩=some (.slice (some ⟨bb,o,none⟩) n c)∧w'.cell? ⟨bb,o+k*3,none⟩=some (.string dn)∧w'.cell? ⟨bb,o+k*3+1,none⟩=some (.slice A1 n1 q1))
     (first | exact⟨p0,k0,k1⟩ | exact⟨cell_later hb1 p0,cell_later hb1 k0,cell_later hb1 k1⟩)
     (first | (go_at_call 117;refine(HKL.out _ (by exact(Below.refl _ _).drew)).mono ?_;rintro e w1 ⟨rfl,hb1'⟩;have hb1:=xC hb1';clear hb1'))
    have HB1:=zh hb1;have p1:=cell_later hb1 p0;have l0:=cell_later hb1 k0;have l1:=cell_later hb1 k1;clear hb1 p0 k0 k1;cases y
    · have HE:Hid (AT=k):=HAT.out k (by omega) hA.out (.inr (by rw[HD.out];exact HAK.out));have HE2:Hid (HS=(decide (dn=nm)&&z)):=by unfold Hid;rw[HHS.out,HE.out,HD.out,HHR.out,decide_eq_true hlt];rfl
      by_cases hnm:dn=nm
      · subst hnm;go_wp2_with fail;refine(HKS.out _ (by exact HB1.out)).mono ?_;rintro e w2 ⟨rfl,q2,rfl⟩;go_wp2_with fail
        go_ret2
        exact⟨by rw[HE.out,HE2.out];simp,vA (HBw.out.later HB1.out) _⟩
      · have hbe:=uC hnm;have HE3:Hid (HS=false):=by unfold Hid;rw[HE2.out];simp[hnm]
        clear hnm;go_wp2_with fail
        go_ret2
        exact⟨by rw[HE.out,HE3.out];rfl,HBw.out.later HB1.out⟩
    · have HN:Hid (∀j,j<k+1→zAc nm ss (fs.getD j default)=true):=fun j hj=>by
       by_cases e:j=k
       · subst e;rw[HD.out];exact HAK.out
       · exact hA.out j (by omega)
      go_wp2_with fail;go_roundw;case rel=>exact⟨k+1,by omega,by go_num,HB.out.trans (HB1.out.mono (by omega)),HN.out⟩
      case measure=>simp[intOf];omega
  · obtain rfl:k=n:=by omega
    have HE:Hid (AT=k):=HAT.out k (by omega) hA.out (.inl rfl);have HE2:Hid (HS=false):=by unfold Hid;rw[HHS.out,HE.out];simp
    go_wp2_with fail
    first
      | (go_quiet (fail)
         go_wp2_with fail
         go_ret2
         exact⟨by rw[HE.out,HE2.out];rfl,vA HBw.out _⟩)
      | (go_ret2
         exact⟨by rw[HE.out,HE2.out];rfl,HBw.out⟩)
end Go.Proofs.YtfpcjhajjejpdaaGreatDoor
