import Derived.Test.YtgmaamnofhmecaaGreatDoorZ04
import Derived.Test.YtgmaamnofhmecaaGreatDoorZ17
import Derived.Test.YtgmaamnofhmecaaGreatDoorZ13
import Derived.Deep.AppendLies
import Derived.Deep.RegionHeld3
import Derived.Deep.RegionLaw
namespace Go.Proofs.YtgmaamnofhmecaaGreatDoor
open Go.RowKit
set_option linter.unusedVariables false
theorem Drawn.set {p K:Nat} {a b:World} (h:Drawn p K a b) {g:Nat} (hg:a.heap.size≤g) (hp:p<a.heap.size) (i:Nat) (u:Value):Drawn p K a (b.setCell ⟨g,i,none⟩ u) :=
 h.grown (Own.grown_set b g i u) (fun g' e=>by cases e;exact hg) hp
theorem Drawn.own {p K:Nat} {a b c:World} {P:Nat→Prop} (h:Drawn p K a b) (k:Own.Chg P b c) (hP:∀g,P g→a.heap.size≤g) (hp:p<a.heap.size):Drawn p K a c :=
 ⟨h.src.chg k (fun g hg=>Nat.lt_of_lt_of_le hp (hP g hg)),h.chg.fresh k hP⟩
theorem zJP {w:World} {base e size n t:Nat} {v:Value} {xs:List Value} {P:Nat→Prop} (h:w.ownsRow base e size v n xs) (hne:e≠t) (hB:∀g,P g→∃cs,Blk w g t cs):Own.inP (fun g=>¬P g) v:=fun g hg hp=>by
 obtain⟨cs,hb⟩:=hB g hp;exact Own.own_blk_ne h hb hne hg
theorem uY {P:Nat→Prop} {a b:World} {g i:Nat} {u:Value} (h:Own.Chg P a b) (hg:P g):Own.Chg P a (b.setCell ⟨g,i,none⟩ u):=h.set hg i u
end Go.Proofs.YtgmaamnofhmecaaGreatDoor
namespace Go.Proofs.YtgmaamnofhmecaaGreatDoor
open Go.RowKit
set_option linter.unusedVariables false
theorem zJK {w5:World} {bs n cap gg:Nat} {ss:List ByteArray} {t:ByteArray} (hrow:w5.ownsRow bs 9 1 (.slice (some ⟨gg,0,none⟩) n cap) n (ss.map Value.string++[.string t])) (hn:n=ss.length+1):Own.SubO w5 bs (.slice (some ⟨gg,0,none⟩) n cap) (ss++[t]):=by
 subst hn;unfold Own.SubO;rw[List.length_append,List.map_append];exact hrow
theorem zCX {w5:World} {bs n:Nat} {v:Value} {ss:List ByteArray} {t:ByteArray} (hrow:w5.ownsRow bs 9 1 v (n+1) (ss.map Value.string++[.string t])) (hn:n=ss.length):Own.SubO w5 bs v (ss++[t]):=by
 subst hn;unfold Own.SubO;rw[List.length_append,List.map_append];exact hrow
end Go.Proofs.YtgmaamnofhmecaaGreatDoor
namespace Go.Proofs.YtgmaamnofhmecaaGreatDoor
open Go.RowKit
set_option linter.unusedVariables false
theorem NodesO.drawn {w w':World} {p K K' base:Nat} {v:Value} {fs:List NodeD} (h:NodesO w base v fs) (hs:SrcR w p K) (hd:Drawn p K' w w'):NodesO w' base v fs:=by
 obtain⟨vs,h⟩:=h;exact⟨vs,OwnL.drawn h hs hd (by decide)⟩
theorem zEP {fs:List NodeD} {nm:ByteArray} {ss:List ByteArray} {v:ByteArray} (h0:(zQ0 fs nm ss v).1=0):xA (zQ0 fs nm ss v).2=true:=by
 unfold zQ0 at h0 ⊢;split at h0
 · next hc=>rw[if_pos hc];simp only[Bool.and_eq_true,decide_eq_true_eq]at hc;exact zFE hc.1 hc.2.1 hc.2.2 h0
 · cases h0
structure TrS (p K:Nat) (w:World) (q r:Nat) (v:Value) (fs:List NodeD) (X:World):Prop where
 own:NodesO X w.heap.size v fs
 tree:xA fs=true
 box:Blk X q 26 #[v]
 res:Blk X r 26 #[.slice none 0 0]
 draw:Drawn p K w X
section
variable {p K K' q r:Nat} {w X Y:World} {v:Value} {fs:List NodeD}
theorem TrS.later (s:TrS p K w q r v fs X) (hb:Below X.heap.size X Y):TrS p K w q r v fs Y:=⟨s.own.later hb,s.tree,s.box.later hb s.box.lt,s.res.later hb s.res.lt,s.draw.later hb⟩
theorem TrS.drawn (s:TrS p K w q r v fs X) (hd:Drawn p K' X Y) (hq:q≠p) (hr:r≠p):TrS p K' w q r v fs Y:=⟨s.own.drawn s.draw.src hd,s.tree,Blk.drawn s.box hd hq,Blk.drawn s.res hd hr,s.draw.trans hd⟩
theorem TrS.mono (s:TrS p K w q r v fs X) (hK:K≤K'):TrS p K' w q r v fs X:=⟨s.own,s.tree,s.box,s.res,s.draw.mono hK⟩
theorem TrS.put (s:TrS p K w q r v fs X) {v2:Value} {fs2:List NodeD} (h:NodesO X w.heap.size v2 fs2) (ht:xA fs2=true) (hrq:r≠q) (hpw:p<w.heap.size) (hq:w.heap.size≤q):TrS p K w q r v2 fs2 (X.setCell ⟨q,0,none⟩ v2) :=
 ⟨h.setBlk s.box (by decide) (by decide),ht,by have h2:=s.box.set_ 0 v2;simpa using h2,s.res.far (p:=⟨q,0,none⟩) hrq v2,s.draw.set hq hpw 0 v2⟩
theorem TrS.side (s:TrS p K w q r v fs X) {b:Nat} {u:Value} {cs:Array Value} (hb:Blk X b 26 cs) (hqb:q≠b) (hrb:r≠b) (hpw:p<w.heap.size) (hwb:w.heap.size≤b):TrS p K w q r v fs (X.setCell ⟨b,0,none⟩ u) :=
 ⟨s.own.setBlk hb (by decide) (by decide),s.tree,s.box.far (p:=⟨b,0,none⟩) hqb u,s.res.far (p:=⟨b,0,none⟩) hrb u,s.draw.set hwb hpw 0 u⟩
end
theorem zHI {Z:World} {g n t:Nat} {ss:List ByteArray} {cs:Array Value} (h:cs=wR ss) (hg:Z.heap.size=g) (hn:ss.length=n):Strs (Z.alloc (.cells cs t)) (Z.alloc (.cells cs t)).heap.size (some ⟨g,0,none⟩) n ss:=by
 subst hg hn;exact zAs Z t ss cs h
theorem zHJ {Z:World} {n:Nat} {A:Option Addr} {ss:List ByteArray} {o:Obj} (h:Strs Z Z.heap.size A n ss):Strs (Z.alloc o) (Z.alloc o).heap.size A n ss:=h.later (Below.new _ _)
theorem zEe {Z:World} {n:Nat} {A:Option Addr} {ss:List ByteArray} (h:Strs Z Z.heap.size A n ss):Strs Z.drew Z.drew.heap.size A n ss:=h.later (Below.refl _ _).drew
theorem zCb {Z:World} {g t:Nat} {cs:Array Value} (hg:Z.heap.size=g):Blk (Z.alloc (.cells cs t)) g t cs:=uH hg
theorem zCc {Z:World} {g t:Nat} {cs:Array Value} {o:Obj} (h:Blk Z g t cs):Blk (Z.alloc o) g t cs:=h.alloc o
theorem zZ0 {Z:World} {g t:Nat} {cs:Array Value} (h:Blk Z g t cs):Blk Z.drew g t cs:=h
theorem zKj {Z Y:World} {p K K' g:Nat} {cs:Array Value} (hs:SrcR Z p K) (hd:Drawn p K' Z Y) (h:Blk Z g 26 cs):Blk Y g 26 cs:=Blk.drawn h hd (fun e=>by
 subst e;obtain⟨A,n,c,a,s,hB,_⟩:=hs;have h2:=hB.symm.trans h;injection h2 with h2;injection h2 with _ ht
 exact absurd ht (by decide))
theorem zIS {wo Z Y:World} {p K K' bs:Nat} {v:Value} {ss:List ByteArray} (h:Own.SubO Z bs v ss) (h0:Drawn p K wo Z) (hd:Drawn p K' Z Y):Own.SubO Y bs v ss:=SubO.drawn h h0.src hd
theorem zCW {Z:World} {bs:Nat} {v:Value} {ss:List ByteArray} (h:Own.SubO Z bs v ss):Own.SubO Z.drew bs v ss:=vK h (Below.refl _ _).drew
theorem zGO {Z:World} {bs:Nat} {v:Value} {ss:List ByteArray} {o:Obj} (h:Own.SubO Z bs v ss):Own.SubO (Z.alloc o) bs v ss:=vK h (Below.new _ _)
theorem zJL {wo Z Y:World} {p K K' n:Nat} {A:Option Addr} {ss:List ByteArray} (h0:Drawn p K wo Z) (hd:Drawn p K' Z Y) (h:Strs Z Z.heap.size A n ss):Strs Y Y.heap.size A n ss:=h0.src.strs h hd
theorem zJx {wo Z Y:World} {p K K' g:Nat} {cs:Array Value} (h0:Drawn p K wo Z) (hd:Drawn p K' Z Y) (h:Blk Z g 26 cs):Blk Y g 26 cs:=zKj h0.src hd h
theorem zAl {p K:Nat} {a b:World} {o:Obj} (h:Drawn p K a b):Drawn p K a (b.alloc o):=h.later (Below.new _ _)
theorem vL {p K:Nat} {a b:World} (h:Drawn p K a b):Drawn p K a b.drew:=h.later (Below.refl _ _).drew
def DrW (p:Nat) (wo W:World):Prop:=∃K,Drawn p K wo W
theorem zGn {p K:Nat} {a b:World} (h:Drawn p K a b):DrW p a b:=⟨K,h⟩
theorem zKI {p:Nat} {a b:World} {o:Obj} (h:DrW p a b):DrW p a (b.alloc o):=by
 obtain⟨K,h⟩:=h;exact⟨K,zAl h⟩
theorem zJZ {p:Nat} {a b:World} (h:DrW p a b):DrW p a b.drew:=by
 obtain⟨K,h⟩:=h;exact⟨K,vL h⟩
theorem zFG {nm:ByteArray} {ss:List ByteArray} {v:ByteArray} (h1:nm.size≤16) (h2:ss.length≤16) (h3:∀s∈ss,s.size≤16) (h4:v.size≤16):(⟨nm,ss,v⟩:NodeD).small :=
 ⟨by show nm.size≤_;omega,⟨by show ss.length≤_;omega,fun s hs=>by have:=h3 s hs;omega⟩,by show v.size≤_;omega⟩
end Go.Proofs.YtgmaamnofhmecaaGreatDoor
namespace Go.Proofs.YtgmaamnofhmecaaGreatDoor
open Go.RowKit
set_option linter.unusedVariables false
def be8 (n:Nat):List UInt8:=[56,48,40,32,24,16,8,0].map fun s=>UInt8.ofNat ((n / 2 ^ s) % 256)
def vU (s:ByteArray):Nat:=(xH s.data.toList+1000000000000000000).toNat
def vD (s:ByteArray):List UInt8:=if vB s=true then 1::be8 (vU s) else 2::(s.data.toList++[0,0])
def yQ (s:ByteArray):Prop:=(0:UInt8) ∉ s.data.toList
theorem zM0 (n:Nat):(be8 n).length=8:=by unfold be8;rw[List.length_map];rfl
theorem zCP (s:ByteArray):0<vU s∧vU s<2000000000000000000∧(vU s:Int)=xH s.data.toList+1000000000000000000:=by
 have h:=zBx s.data.toList;unfold vU;omega
theorem zHT (N:Nat):∀k,k<8→(be8 N).take (k+1)=(be8 N).take k++[UInt8.ofNat ((N / 2 ^ (56-8*k)) % 256)]:=by
 intro k hk;have hcs:k=0∨k=1∨k=2∨k=3∨k=4∨k=5∨k=6∨k=7:=by omega
 rcases hcs with rfl | rfl | rfl | rfl | rfl | rfl | rfl | rfl;all_goals rfl
def xN (ss:List ByteArray):ByteArray:=⟨(ss.flatMap vD).toArray⟩
def zDG (v:ByteArray) (ss:List ByteArray):Prop:=yC ss=true∧(∀s∈ss,yQ s)∧v=xN ss
open Classical in
noncomputable def getOkB (v:ByteArray):Bool:=decide (∃ss,zDG v ss)
def zAU (v:ByteArray):Prop:=∃c r,v.data.toList=c::r∧c≠1∧c≠2
def okV (v:ByteArray):Prop:=(∃ss,zDG v ss)∨zAU v
theorem zBU (s:ByteArray):∃c r,vD s=c::r∧(c=1∨c=2):=by
 unfold vD;split
 · exact⟨1,_,rfl,.inl rfl⟩
 · exact⟨2,_,rfl,.inr rfl⟩
theorem zAS (ss:List ByteArray):(xN ss).data.toList=ss.flatMap vD:=by simp[xN]
theorem zGd {v:ByteArray} (h:zAU v):¬∃ss,zDG v ss:=by
 rintro⟨ss,_,_,rfl⟩;obtain⟨c,r,e,h1,h2⟩:=h;rw[zAS]at e
 cases ss with
 | nil=>simp at e
 | cons s t =>
   obtain⟨c',r',e',h'⟩:=zBU s;rw[List.flatMap_cons,e',List.cons_append]at e;injection e with e1 _;subst e1;rcases h' with h' | h'
   · exact h1 h'
   · exact h2 h'
open Classical in
theorem zGf {v:ByteArray} {ss:List ByteArray} (h:zDG v ss):getOkB v=true:=by
 unfold getOkB;exact decide_eq_true ⟨ss,h⟩
open Classical in
theorem zEq {v:ByteArray} (h:zAU v):getOkB v=false:=by
 unfold getOkB;exact decide_eq_false (zGd h)
theorem zCN:okV ⟨#[]⟩:=.inl ⟨[],by decide,(fun s hs=>by cases hs),rfl⟩
end Go.Proofs.YtgmaamnofhmecaaGreatDoor
