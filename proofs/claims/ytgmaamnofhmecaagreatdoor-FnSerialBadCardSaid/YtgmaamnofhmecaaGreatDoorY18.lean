import Derived.Test.YtgmaamnofhmecaaGreatDoorY17
import Derived.Test.YtgmaamnofhmecaaGreatDoorY13
import Derived.Deep.AppendLies
import Derived.Deep.RegionHeld3
import Derived.Deep.RegionLaw
set_option linter.unusedSimpArgs false
namespace Go.Proofs.YtgmaamnofhmecaaGreatDoor
open Go.RowKit
set_option linter.unusedVariables false
theorem zKc {w5:World} {bs n cap gg:Nat} {ss:List ByteArray} {t:ByteArray} (hrow:w5.ownsRow bs 9 1 (.slice (some ⟨gg,0,none⟩) n cap) n (ss.map Value.string++[.string t])) (hn:n=ss.length+1):Own.SubO w5 bs (.slice (some ⟨gg,0,none⟩) n cap) (ss++[t]):=by
 subst hn;unfold Own.SubO;rw[List.length_append,List.map_append];exact hrow
theorem zDh {w5:World} {bs n:Nat} {v:Value} {ss:List ByteArray} {t:ByteArray} (hrow:w5.ownsRow bs 9 1 v (n+1) (ss.map Value.string++[.string t])) (hn:n=ss.length):Own.SubO w5 bs v (ss++[t]):=by
 subst hn;unfold Own.SubO;rw[List.length_append,List.map_append];exact hrow
end Go.Proofs.YtgmaamnofhmecaaGreatDoor
namespace Go.Proofs.YtgmaamnofhmecaaGreatDoor
open Go.RowKit
set_option linter.unusedVariables false
theorem NodesO.drawn {w w':World} {p K K' base:Nat} {v:Value} {fs:List NodeD} (h:NodesO w base v fs) (hs:SrcR w p K) (hd:Drawn p K' w w'):NodesO w' base v fs:=by
 obtain⟨vs,h⟩:=h;exact⟨vs,OwnL.drawn h hs hd (by decide)⟩
theorem zFf {fs:List NodeD} {nm:ByteArray} {ss:List ByteArray} {v:ByteArray} (h0:(vP fs nm ss v).1=0):xA (vP fs nm ss v).2=true:=by
 unfold vP at h0 ⊢;split at h0
 · next hc=>rw[if_pos hc];simp only[Bool.and_eq_true,decide_eq_true_eq]at hc;exact zFW hc.1 hc.2.1 hc.2.2 h0
 · cases h0
structure TrS (p K:Nat) (w:World) (q r:Nat) (v:Value) (fs:List NodeD) (X:World):Prop where
 own:NodesO X w.heap.size v fs
 tree:xA fs=true
 box:Blk X q 26 #[v]
 res:Blk X r 26 #[.slice none 0 0]
 draw:Drawn p K w X
section
variable {p K K' q r:Nat} {w X Y:World} {v:Value} {fs:List NodeD}
theorem TrS.later (s:TrS p K w q r v fs X) (hb:Below X.heap.size X Y):TrS p K w q r v fs Y:=⟨s.own.later hb,s.tree,s.box.later hb s.box.lt,s.res.later hb s.res.lt,s.draw.later hb⟩
theorem TrS.drawn (s:TrS p K w q r v fs X) (hd:Drawn p K' X Y) (hq:q≠p) (hr:r≠p):TrS p K' w q r v fs Y:=⟨s.own.drawn s.draw.src hd,s.tree,Blk.drawn s.box hd hq,Blk.drawn s.res hd hr,s.draw.trans hd⟩
theorem TrS.mono (s:TrS p K w q r v fs X) (hK:K≤K'):TrS p K' w q r v fs X:=⟨s.own,s.tree,s.box,s.res,s.draw.mono hK⟩
theorem TrS.put (s:TrS p K w q r v fs X) {v2:Value} {fs2:List NodeD} (h:NodesO X w.heap.size v2 fs2) (ht:xA fs2=true) (hrq:r≠q) (hpw:p<w.heap.size) (hq:w.heap.size≤q):TrS p K w q r v2 fs2 (X.setCell ⟨q,0,none⟩ v2) :=
 ⟨h.setBlk s.box (by decide) (by decide),ht,by have h2:=s.box.set_ 0 v2;simpa using h2,s.res.far (p:=⟨q,0,none⟩) hrq v2,s.draw.set hq hpw 0 v2⟩
theorem TrS.side (s:TrS p K w q r v fs X) {b:Nat} {u:Value} {cs:Array Value} (hb:Blk X b 26 cs) (hqb:q≠b) (hrb:r≠b) (hpw:p<w.heap.size) (hwb:w.heap.size≤b):TrS p K w q r v fs (X.setCell ⟨b,0,none⟩ u) :=
 ⟨s.own.setBlk hb (by decide) (by decide),s.tree,s.box.far (p:=⟨b,0,none⟩) hqb u,s.res.far (p:=⟨b,0,none⟩) hrb u,s.draw.set hwb hpw 0 u⟩
end
theorem zIe {Z:World} {g n t:Nat} {ss:List ByteArray} {cs:Array Value} (h:cs=uQ ss) (hg:Z.heap.size=g) (hn:ss.length=n):Strs (Z.alloc (.cells cs t)) (Z.alloc (.cells cs t)).heap.size (some ⟨g,0,none⟩) n ss:=by
 subst hg hn;exact zAr Z t ss cs h
theorem zIf {Z:World} {n:Nat} {A:Option Addr} {ss:List ByteArray} {o:Obj} (h:Strs Z Z.heap.size A n ss):Strs (Z.alloc o) (Z.alloc o).heap.size A n ss:=h.later (Below.new _ _)
theorem zEu {Z:World} {n:Nat} {A:Option Addr} {ss:List ByteArray} (h:Strs Z Z.heap.size A n ss):Strs Z.drew Z.drew.heap.size A n ss:=h.later (Below.refl _ _).drew
theorem zCi {Z:World} {g t:Nat} {cs:Array Value} (hg:Z.heap.size=g):Blk (Z.alloc (.cells cs t)) g t cs:=vO hg
theorem zCj {Z:World} {g t:Nat} {cs:Array Value} {o:Obj} (h:Blk Z g t cs):Blk (Z.alloc o) g t cs:=h.alloc o
theorem uY {Z:World} {g t:Nat} {cs:Array Value} (h:Blk Z g t cs):Blk Z.drew g t cs:=h
theorem zKz {Z Y:World} {p K K' g:Nat} {cs:Array Value} (hs:SrcR Z p K) (hd:Drawn p K' Z Y) (h:Blk Z g 26 cs):Blk Y g 26 cs:=Blk.drawn h hd (fun e=>by
 subst e;obtain⟨A,n,c,a,s,hB,_⟩:=hs;have h2:=hB.symm.trans h;injection h2 with h2;injection h2 with _ ht
 exact absurd ht (by decide))
theorem zJm {wo Z Y:World} {p K K' bs:Nat} {v:Value} {ss:List ByteArray} (h:Own.SubO Z bs v ss) (h0:Drawn p K wo Z) (hd:Drawn p K' Z Y):Own.SubO Y bs v ss:=SubO.drawn h h0.src hd
theorem zDg {Z:World} {bs:Nat} {v:Value} {ss:List ByteArray} (h:Own.SubO Z bs v ss):Own.SubO Z.drew bs v ss:=yK h (Below.refl _ _).drew
theorem zHh {Z:World} {bs:Nat} {v:Value} {ss:List ByteArray} {o:Obj} (h:Own.SubO Z bs v ss):Own.SubO (Z.alloc o) bs v ss:=yK h (Below.new _ _)
theorem zKd {wo Z Y:World} {p K K' n:Nat} {A:Option Addr} {ss:List ByteArray} (h0:Drawn p K wo Z) (hd:Drawn p K' Z Y) (h:Strs Z Z.heap.size A n ss):Strs Y Y.heap.size A n ss:=h0.src.strs h hd
theorem zJQ {wo Z Y:World} {p K K' g:Nat} {cs:Array Value} (h0:Drawn p K wo Z) (hd:Drawn p K' Z Y) (h:Blk Z g 26 cs):Blk Y g 26 cs:=zKz h0.src hd h
theorem zAj {p K:Nat} {a b:World} {o:Obj} (h:Drawn p K a b):Drawn p K a (b.alloc o):=h.later (Below.new _ _)
theorem yL {p K:Nat} {a b:World} (h:Drawn p K a b):Drawn p K a b.drew:=h.later (Below.refl _ _).drew
def DrW (p:Nat) (wo W:World):Prop:=∃K,Drawn p K wo W
theorem zGE {p K:Nat} {a b:World} (h:Drawn p K a b):DrW p a b:=⟨K,h⟩
theorem zKX {p:Nat} {a b:World} {o:Obj} (h:DrW p a b):DrW p a (b.alloc o):=by
 obtain⟨K,h⟩:=h;exact⟨K,zAj h⟩
theorem zKp {p:Nat} {a b:World} (h:DrW p a b):DrW p a b.drew:=by
 obtain⟨K,h⟩:=h;exact⟨K,yL h⟩
theorem zFY {nm:ByteArray} {ss:List ByteArray} {v:ByteArray} (h1:nm.size≤16) (h2:ss.length≤16) (h3:∀s∈ss,s.size≤16) (h4:v.size≤16):(⟨nm,ss,v⟩:NodeD).small :=
 ⟨by show nm.size≤_;omega,⟨by show ss.length≤_;omega,fun s hs=>by have:=h3 s hs;omega⟩,by show v.size≤_;omega⟩
end Go.Proofs.YtgmaamnofhmecaaGreatDoor
namespace Go.Proofs.YtgmaamnofhmecaaGreatDoor
open Go.RowKit
set_option linter.unusedVariables false
def be8 (n:Nat):List UInt8:=[56,48,40,32,24,16,8,0].map fun s=>UInt8.ofNat ((n / 2 ^ s) % 256)
def xU (s:ByteArray):Nat:=(zH0 s.data.toList+1000000000000000000).toNat
def vD (s:ByteArray):List UInt8:=if wB s=true then 1::be8 (xU s) else 2::(s.data.toList++[0,0])
def uP (s:ByteArray):Prop:=(0:UInt8) ∉ s.data.toList
theorem wL (n:Nat):(be8 n).length=8:=by unfold be8;rw[List.length_map];rfl
theorem zCX (s:ByteArray):0<xU s∧xU s<2000000000000000000∧(xU s:Int)=zH0 s.data.toList+1000000000000000000:=by
 have h:=zBz s.data.toList;unfold xU;omega
theorem zIq (N:Nat):∀k,k<8→(be8 N).take (k+1)=(be8 N).take k++[UInt8.ofNat ((N / 2 ^ (56-8*k)) % 256)]:=by
 intro k hk;have hcs:k=0∨k=1∨k=2∨k=3∨k=4∨k=5∨k=6∨k=7:=by omega
 rcases hcs with rfl | rfl | rfl | rfl | rfl | rfl | rfl | rfl;all_goals rfl
def zN0 (ss:List ByteArray):ByteArray:=⟨(ss.flatMap vD).toArray⟩
def zDV (v:ByteArray) (ss:List ByteArray):Prop:=xC ss=true∧(∀s∈ss,uP s)∧v=zN0 ss
open Classical in
noncomputable def getOkB (v:ByteArray):Bool:=decide (∃ss,zDV v ss)
def zAU (v:ByteArray):Prop:=∃c r,v.data.toList=c::r∧c≠1∧c≠2
def okV (v:ByteArray):Prop:=(∃ss,zDV v ss)∨zAU v
theorem zBY (s:ByteArray):∃c r,vD s=c::r∧(c=1∨c=2):=by
 unfold vD;split
 · exact⟨1,_,rfl,.inl rfl⟩
 · exact⟨2,_,rfl,.inr rfl⟩
theorem zAS (ss:List ByteArray):(zN0 ss).data.toList=ss.flatMap vD:=by simp[zN0]
theorem zGv {v:ByteArray} (h:zAU v):¬∃ss,zDV v ss:=by
 rintro⟨ss,_,_,rfl⟩;obtain⟨c,r,e,h1,h2⟩:=h;rw[zAS]at e
 cases ss with
 | nil=>simp at e
 | cons s t =>
   obtain⟨c',r',e',h'⟩:=zBY s;rw[List.flatMap_cons,e',List.cons_append]at e;injection e with e1 _;subst e1;rcases h' with h' | h'
   · exact h1 h'
   · exact h2 h'
open Classical in
theorem zGw {v:ByteArray} {ss:List ByteArray} (h:zDV v ss):getOkB v=true:=by
 unfold getOkB;exact decide_eq_true ⟨ss,h⟩
open Classical in
theorem zEG {v:ByteArray} (h:zAU v):getOkB v=false:=by
 unfold getOkB;exact decide_eq_false (zGv h)
theorem zCW:okV ⟨#[]⟩:=.inl ⟨[],by decide,(fun s hs=>by cases hs),rfl⟩
end Go.Proofs.YtgmaamnofhmecaaGreatDoor
