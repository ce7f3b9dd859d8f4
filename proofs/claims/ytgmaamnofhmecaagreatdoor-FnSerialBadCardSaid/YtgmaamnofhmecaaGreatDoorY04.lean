import Derived.Test.YtgmaamnofhmecaaGreatDoorY00
import Derived.Test.YtgmaamnofhmecaaGreatDoorY01
import Derived.Test.YtgmaamnofhmecaaGreatDoorY03
import Derived.Laws.BitsAllLaws
set_option linter.unusedSimpArgs false
set_option maxHeartbeats 1000000
open Go.Lib renaming hid → zh
namespace Go.Proofs.YtgmaamnofhmecaaGreatDoor
open Go.RowKit _root_.Go.Proofs.YtgmaamnofhmecaaGreatDoor.Own
set_option linter.unusedVariables false
def Ints (w:World) (B:Nat) (A:Option Addr) (n:Nat) (zs:List Int):Prop :=
 zs.length=n∧(0<n→∃b o,A=some ⟨b,o,none⟩∧b<B∧∀j,j<n→w.cell? ⟨b,o+j,none⟩=some (.int .i64 (zs.getD j 0)))
section
variable {w w':World} {B B' n:Nat} {A:Option Addr} {zs:List Int}
theorem Ints.keep (h:Ints w B A n zs) (hk:∀p:Addr,p.block<B→w'.cell? p=w.cell? p):Ints w' B A n zs :=
 ⟨h.1,fun hn=>by
   obtain⟨b,o,e,hb,hc⟩:=h.2 hn
   exact⟨b,o,e,hb,fun j hj=>(hk _ hb).trans (hc j hj)⟩⟩
theorem Ints.more (h:Ints w B A n zs) (hB:B≤B'):Ints w B' A n zs :=
 ⟨h.1,fun hn=>by
   obtain⟨b,o,e,hb,hc⟩:=h.2 hn
   exact⟨b,o,e,by omega,hc⟩⟩
theorem Ints.later (h:Ints w w.heap.size A n zs) (hb:Below w.heap.size w w'):Ints w' w'.heap.size A n zs:=(h.keep fun _ hp=>hb.cell hp).more hb.size
end
def BytesR (w:World) (B:Nat) (A:Option Addr) (n:Nat):Prop:=0<n→∃b o,A=some ⟨b,o,none⟩∧b<B∧∀j,j<n→∃x:Nat,w.cell? ⟨b,o+j,none⟩=some (.int .u8 x)∧x≤255
def SrcR (w:World) (p K:Nat):Prop:=∃(A:Option Addr) (n c a s:Nat),Blk w p 141 #[.slice A n c,.int .i64 a,.int .u64 s]∧BytesR w p A n∧a≤K∧n≤1048576∧s<18446744073709551616
theorem BytesR.later {w w':World} {B:Nat} {A:Option Addr} {n:Nat} (h:BytesR w B A n) (hk:∀i,i<B→w'.heap[i]?=w.heap[i]?):BytesR w' B A n:=fun hn=>by
 obtain⟨b,o,e,hb,hc⟩:=h hn;refine⟨b,o,e,hb,fun j hj=>?_⟩;obtain⟨x,h1,h2⟩:=hc j hj;exact⟨x,(World.cell?_of_block (w:=w) (hk b hb)).trans h1,h2⟩
theorem SrcR.later {w w':World} {p K:Nat} (h:SrcR w p K) (hb:Below w.heap.size w w'):SrcR w' p K:=by
 obtain⟨A,n,c,a,s,hB,hY,h1,h2,h3⟩:=h;exact⟨A,n,c,a,s,hB.later hb hB.lt,hY.later (fun i hi=>hb.block i (by have:=hB.lt;omega)),h1,h2,h3⟩
theorem SrcR.mono {w:World} {p K K':Nat} (h:SrcR w p K) (hK:K≤K'):SrcR w p K':=by
 obtain⟨A,n,c,a,s,hB,hY,h1,h2,h3⟩:=h;exact⟨A,n,c,a,s,hB,hY,by omega,h2,h3⟩
theorem SrcR.lt {w:World} {p K:Nat} (h:SrcR w p K):p<w.heap.size:=by
 obtain⟨A,n,c,a,s,hB,_⟩:=h;exact hB.lt
structure Drawn (p K:Nat) (w w':World):Prop where
 src:SrcR w' p K
 chg:Chg (fun g=>g=p) w w'
theorem Drawn.later {p K:Nat} {a b c:World} (h:Drawn p K a b) (hb:Below b.heap.size b c):Drawn p K a c:=⟨h.src.later hb,h.chg.trans (Chg.of_below hb)⟩
theorem Drawn.trans {p K K':Nat} {a b c:World} (h:Drawn p K a b) (k:Drawn p K' b c):Drawn p K' a c:=⟨k.src,h.chg.trans k.chg⟩
theorem SrcR.not_own {w:World} {p K:Nat} (h:SrcR w p K) {base e size n:Nat} {v:Value} {xs:List Value} (hr:w.ownsRow base e size v n xs) (he:e≠141):Own.inP (fun g=>¬g=p) v:=fun g hg e1=>by
 obtain⟨A,m,c,a,s,hB,_⟩:=h;subst e1;exact own_blk_ne hr hB he hg
theorem OwnL.drawn {α:Type} [Inhabited α] {D:Kind α} {w w':World} {p K K' base t:Nat} {v:Value} {fs:List α} {vs:List Value} (h:OwnL D w base t v fs vs) (hs:SrcR w p K) (hd:Drawn p K' w w') (ht:t≠141):OwnL D w' base t v fs vs :=
 OwnL.chg h hd.chg (hs.not_own h.row ht) (fun u hu=>by
  obtain⟨j,hj,rfl⟩:=mem_getD hu
  exact hs.not_own (h.subs j (by rw[←h.len];exact hj)) (by decide))
theorem _root_.Go.Proofs.YtgmaamnofhmecaaGreatDoor.Own.Chg.drewN {P:Nat→Prop} {a b:World} (h:Chg P a b) (q:Nat):Chg P a (b.drewN q):=h.trans (Chg.of_below (vA (Below.refl _ _) q))
theorem zIg {w:World} {p K a s s2 n c:Nat} {A:Option Addr} (hB:Blk w p 141 #[.slice A n c,.int .i64 a,.int .u64 s]) (hY:BytesR w p A n) (ha:a≤K) (hn:n≤1048576) (hs:s2<18446744073709551616) (q q2:Nat) :
 Drawn p (K+1) w ((((w.drewN q).setCell ⟨p,1,none⟩ (.int .i64 ((a:Int)+1))).setCell ⟨p,2,none⟩ (.int .u64 s2)).drewN q2):=by
 have hc:Chg (fun g=>g=p) w ((((w.drewN q).setCell ⟨p,1,none⟩ (.int .i64 ((a:Int)+1))).setCell ⟨p,2,none⟩ (.int .u64 s2)).drewN q2) :=
  Chg.drewN (Chg.set (Chg.set (P:=fun g=>g=p) (Chg.drewN (Chg.refl (fun g=>g=p) w) q) (g:=p) rfl 1 (.int .i64 ((a:Int)+1))) (g:=p) rfl 2 (.int .u64 s2)) q2
 have h1:Blk (w.drewN q) p 141 #[.slice A n c,.int .i64 a,.int .u64 s]:=hB;have h2:=(h1.set_ 1 (.int .i64 ((a:Int)+1))).set_ 2 (.int .u64 s2)
 have h3:Blk ((((w.drewN q).setCell ⟨p,1,none⟩ (.int .i64 ((a:Int)+1))).setCell ⟨p,2,none⟩ (.int .u64 s2)).drewN q2) p 141 #[.slice A n c,.int .i64 ((a+1:Nat):Int),.int .u64 s2]:=by
  have h4:Blk ((((w.drewN q).setCell ⟨p,1,none⟩ (.int .i64 ((a:Int)+1))).setCell ⟨p,2,none⟩ (.int .u64 s2))) p 141 #[.slice A n c,.int .i64 ((a+1:Nat):Int),.int .u64 s2]:=by simpa using h2
  exact h4
 exact⟨⟨A,n,c,a+1,s2,h3,hY.later (fun i hi=>hc.block i (by have:=hB.lt;omega) (by omega)),by omega,hn,hs⟩,hc⟩
theorem zJA (s:Nat) (h:s<18446744073709551616):∃x:Nat,wrap64 (bits BinOp.and IntKind.u64 ((s:Int) / 1099511627776) 255)=x∧x≤255:=by
 have e:(s:Int) / 1099511627776=((s / 1099511627776:Nat):Int):=by omega
 have h1:=u64_and_nat (s / 1099511627776) 255 (by omega) (by omega);have h2:s / 1099511627776 &&& 255≤255:=Nat.and_le_right;refine⟨s / 1099511627776 &&& 255,?_,h2⟩;rw[e];have h3:bits BinOp.and IntKind.u64 ((s / 1099511627776:Nat):Int) 255=((s / 1099511627776 &&& 255:Nat):Int):=h1;rw[h3];unfold wrap64;omega
theorem zId (z:Int):∃s:Nat,IntKind.u64.wrap z=s∧s<18446744073709551616 :=
 ⟨(z % 18446744073709551616).toNat,by rw[IntKind.wrap_u64];omega,by omega⟩
theorem zGg (p K:Nat) (w:World) (h:SrcR w p K) (hK:K≤1099511627776) :
 Calls Tryz.prog 185 #[.pointer (some ⟨p,0,none⟩)] w fun e w'=>∃x:Nat,e=.returned (.int .i64 x)∧x≤255∧Drawn p (K+1) w w':=by
 obtain⟨A,n,c,a,s,hB,hY,ha,hn,hs⟩:=h;have HB:=zh hB;have HY:=zh hY;have c0:=hB.cell 0;have c1:=hB.cell 1;have c2:=hB.cell 2;have f1:=hB.frozen 1;have f2:=hB.frozen 2;have hz:=hB.lt;simp at c0 c1 c2;clear hB hY;go_enter Tryz.func185,Tryz.ntmps185;by_cases hlt:a<n
 · obtain⟨b,o,rfl,hb,hc⟩:=HY.out (by omega);obtain⟨x,hx,hx2⟩:=hc a hlt;clear hc;go_wp2_with fail
   go_quiet (fail)
   go_wp2_with fail
   go_quiet (fail)
   go_wp2_with fail;obtain⟨s2,hs2,hs3⟩:=zId (IntKind.u64.wrap (IntKind.u64.wrap ((s:Int)*6364136223846793005)+x)+1442695040888963407);rw[hs2];clear hs2
   go_quiet (fail)
   go_wp2_with fail;go_ret;exact⟨x,rfl,hx2,zIg HB.out HY.out ha hn hs3 _ _⟩
 · go_wp2_with fail
   go_quiet (fail)
   go_wp2_with fail;obtain⟨s2,hs2,hs3⟩:=zId (IntKind.u64.wrap (IntKind.u64.wrap ((s:Int)*6364136223846793005))+1442695040888963407);rw[hs2];clear hs2;have hnot:¬(a:Int)+1≤(n:Int):=by omega
   go_quiet (fail)
   go_wp2_with fail;obtain⟨x,hx,hx2⟩:=zJA s2 hs3;rw[hx];go_ret;exact⟨x,rfl,hx2,zIg HB.out HY.out ha hn hs3 _ _⟩
theorem Drawn.refl {p K:Nat} {w:World} (h:SrcR w p K):Drawn p K w w:=⟨h,Chg.refl _ _⟩
theorem Drawn.mono {p K K':Nat} {a b:World} (h:Drawn p K a b) (hK:K≤K'):Drawn p K' a b:=⟨h.src.mono hK,h.chg⟩
theorem zBH (z n:Int) (h:0<n):∃x:Nat,z % n=x∧(x:Int)<n :=
 ⟨(z % n).toNat,by have:=Int.emod_nonneg z (show n≠0 by omega);omega,by have:=Int.emod_lt_of_pos z h;have:=Int.emod_nonneg z (show n≠0 by omega);omega⟩
theorem vJ (p K:Nat) (n:Int) (w:World) (h:SrcR w p K) (hK:K≤1099511627775) (hn:n≤4294967296) :
 Calls Tryz.prog 118 #[.pointer (some ⟨p,0,none⟩),.int .i64 n] w fun e w'=>∃x:Nat,e=.returned (.int .i64 x)∧((x:Int)<n∨x=0)∧Drawn p (K+2) w w':=by
 have HK1:=zh (zGg p K w h (by omega));have HK2:=zh (fun W (hW:SrcR W p (K+1))=>zGg p (K+1) W hW (by omega));have HD0:=zh ((Drawn.refl h).mono (show K≤K+2 by omega));clear h;go_enter Tryz.func118,Tryz.ntmps118;by_cases h1:n≤1
 · go_wp2_with fail;go_ret;exact⟨0,rfl,.inr rfl,HD0.out⟩
 · go_wp2_with fail;refine HK1.out.mono ?_;rintro e w1 ⟨x,rfl,hx,hd1⟩;have HD1:=zh (hd1.mono (show K+1≤K+2 by omega));have HN:=zh (HK2.out w1 hd1.src);have HD2:=zh hd1;clear hd1 HK1 HK2;have hn0:¬n=0:=by omega
   by_cases h2:200<n
   · go_wp2_with fail;refine HN.out.mono ?_;rintro e w2 ⟨y,rfl,hy,hd2⟩;have HD3:=zh (HD2.out.trans hd2);clear hd2;go_wp2_with fail;obtain⟨z,hz1,hz2⟩:=zBH ((x:Int)*256+y) n (by omega);rw[hz1];go_ret;exact⟨z,rfl,.inl hz2,HD3.out⟩
   · go_wp2_with fail;obtain⟨z,hz1,hz2⟩:=zBH (x:Int) n (by omega);rw[hz1];go_ret;exact⟨z,rfl,.inl hz2,HD1.out⟩
theorem zIj (p K:Nat) (n:Int) (w:World) (h:SrcR w p K) (hK:K≤1099511627775) (hn:n≤4294967296) :
 Calls Tryz.prog 73 #[.pointer (some ⟨p,0,none⟩),.int .i64 n] w fun e w'=>∃b:Bool,e=.returned (.bool b)∧Drawn p (K+2) w w':=by
 have HK1:=zh (vJ p K n w h hK hn);clear h;go_enter Tryz.func73,Tryz.ntmps73;go_wp2_with fail;refine HK1.out.mono ?_;rintro e w1 ⟨x,rfl,_,hd1⟩;have HD1:=zh hd1;clear hd1;go_wp2_with fail;go_ret;exact⟨_,rfl,HD1.out⟩
theorem SrcR.ne {w:World} {p K b o:Nat} {v:Value} (h:SrcR w p K) (hv:w.cell? ⟨b,o,none⟩=some v) (h1:(∀A n c,v≠.slice A n c)∧(∀z,v≠.int .i64 z)∧(∀z,v≠.int .u64 z)):b≠p:=by
 rintro rfl;obtain⟨A,n,c,a,s,hB,_⟩:=h;have h2:=(hB.cell o).symm.trans hv;rcases o with _ | _ | _ | o
 · exact h1.1 _ _ _ (by simpa using h2.symm)
 · exact h1.2.1 _ (by simpa using h2.symm)
 · exact h1.2.2 _ (by simpa using h2.symm)
 · simp at h2
theorem SrcR.strs {w w':World} {p K K' n:Nat} {A:Option Addr} {ss:List ByteArray} (h:SrcR w p K) (hs:Strs w w.heap.size A n ss) (hd:Drawn p K' w w'):Strs w' w'.heap.size A n ss:=by
 refine⟨hs.1,fun hn=>?_⟩;obtain⟨b,o,e,hb,hc⟩:=hs.2 hn;have hne:b≠p:=h.ne (hc 0 hn) ⟨fun _ _ _=>by simp,fun _=>by simp,fun _=>by simp⟩;exact⟨b,o,e,Nat.lt_of_lt_of_le hb hd.chg.size,fun j hj=>(World.cell?_of_block (w:=w) (hd.chg.block b hb hne)).trans (hc j hj)⟩
theorem zAq (p K:Nat) (A:Option Addr) (n c:Nat) (ss:List ByteArray) (w:World) (h:SrcR w p K) (hK:K≤1099511627775) (hs:Strs w w.heap.size A n ss) (hn:0<n) (hn2:n≤1048576) :
 Calls Tryz.prog 119 #[.pointer (some ⟨p,0,none⟩),.slice A n c] w fun e w'=>∃s∈ss,e=.returned (.string s)∧Drawn p (K+2) w w':=by
 have HK1:=zh (vJ p K n w h hK (by omega));have HS:=zh (fun w' (hd:Drawn p (K+2) w w')=>h.strs hs hd);have HL:Hid (ss.length=n):=hs.1;clear h hs;go_enter Tryz.func119,Tryz.ntmps119;go_wp2_with fail;refine HK1.out.mono ?_;rintro e w1 ⟨x,rfl,hx,hd1⟩;have hxn:x<n:=by omega
 obtain⟨b,o,rfl,hb,hc⟩:=(HS.out w1 hd1).2 hn;have hcx:=hc x hxn;have HM:Hid (ss.getD x ByteArray.empty∈ss):=mem_of_getD ss x _ (by rw[HL.out];exact hxn);have HD1:=zh hd1;clear hd1 hc hx HS;generalize ss.getD x ByteArray.empty=t at *;go_wp2_with fail;go_ret;exact⟨t,HM.out,rfl,HD1.out⟩
theorem zER (p K:Nat) (b n c:Nat) (zs:List Int) (w:World) (h:SrcR w p K) (hK:K≤1099511627775) (hs:Ints w w.heap.size (some ⟨b,0,none⟩) n zs) (hbp:b≠p) (hn:0<n) (hn2:n≤1048576) :
 Calls Tryz.prog 155 #[.pointer (some ⟨p,0,none⟩),.slice (some ⟨b,0,none⟩) n c] w fun e w'=>∃z∈zs,e=.returned (.int .i64 z)∧Drawn p (K+2) w w':=by
 have HK1:=zh (vJ p K n w h hK (by omega));have HS:Hid (∀w',Drawn p (K+2) w w'→Ints w' w'.heap.size (some ⟨b,0,none⟩) n zs):=fun w' hd=>by refine⟨hs.1,fun hn=>?_⟩;obtain⟨b',o,e,hb,hc⟩:=hs.2 hn;cases e;exact⟨b,0,rfl,Nat.lt_of_lt_of_le hb hd.chg.size,fun j hj=>(World.cell?_of_block (w:=w) (hd.chg.block b hb hbp)).trans (hc j hj)⟩
 have HL:Hid (zs.length=n):=hs.1;clear h hs;go_enter Tryz.func155,Tryz.ntmps155;go_wp2_with fail;refine HK1.out.mono ?_;rintro e w1 ⟨x,rfl,hx,hd1⟩;have hxn:x<n:=by omega
 obtain⟨b',o,e,hb,hc⟩:=(HS.out w1 hd1).2 hn;cases e;have hcx:=hc x hxn;have HM:Hid (zs.getD x 0∈zs):=mem_of_getD zs x _ (by rw[HL.out];exact hxn);have HD1:=zh hd1;clear hd1 hc hx HS;rw[Nat.zero_add]at hcx;generalize zs.getD x 0=t at *;go_wp2_with fail;go_ret;exact⟨t,HM.out,rfl,HD1.out⟩
theorem _root_.Go.Proofs.YtgmaamnofhmecaaGreatDoor.Own.Chg.fresh {P Q:Nat→Prop} {a b c:World} (h:Chg P a b) (k:Chg Q b c) (hQ:∀g,Q g→a.heap.size≤g):Chg P a c :=
 ⟨k.os.trans h.os,k.tape.trans h.tape,k.output.trans h.output,Nat.le_trans h.size k.size,fun i hi' hr=>(k.block i (Nat.lt_of_lt_of_le hi' h.size) (fun hq=>by have:=hQ i hq;omega)).trans (h.block i hi' hr)⟩
theorem SrcR.chg {P:Nat→Prop} {w w':World} {p K:Nat} (h:SrcR w p K) (k:Chg P w w') (hP:∀g,P g→p<g):SrcR w' p K:=by
 obtain⟨A,n,c,a,s,hB,hY,h1,h2,h3⟩:=h;exact⟨A,n,c,a,s,Own.Blk.chg hB k (fun hp=>Nat.lt_irrefl _ (hP _ hp)),hY.later (fun i hi=>k.block i (by have:=hB.lt;omega) (fun hp=>by have:=hP _ hp;omega)),h1,h2,h3⟩
theorem Drawn.pre {p K:Nat} {a b c:World} (hb:Below a.heap.size a b) (h:Drawn p K b c):Drawn p K a c:=⟨h.src,(Chg.of_below hb).trans h.chg⟩
theorem Drawn.grown {p K:Nat} {a b c:World} {row:Option Nat} (h:Drawn p K a b) (hg:b.grownBy c row) (hr:∀g,row=some g→a.heap.size≤g) (hp:p<a.heap.size):Drawn p K a c :=
 ⟨h.src.chg (Chg.of_grown (P:=fun g=>a.heap.size≤g) hg hr) (fun g hg'=>Nat.lt_of_lt_of_le hp hg'),h.chg.fresh (Chg.of_grown (P:=fun g=>a.heap.size≤g) hg hr) (fun g hg'=>hg')⟩
theorem Drawn.lt {p K:Nat} {a b:World} (h:Drawn p K a b):p<b.heap.size:=h.src.lt
theorem SubO.drawn {w w':World} {p K K' base:Nat} {v:Value} {ss:List ByteArray} (h:SubO w base v ss) (hs:SrcR w p K) (hd:Drawn p K' w w'):SubO w' base v ss :=
 own_chg h hd.chg (hs.not_own h (by decide))
theorem Blk.drawn {w w':World} {p K g t:Nat} {cs:Array Value} (h:Blk w g t cs) (hd:Drawn p K w w') (hp:g≠p):Blk w' g t cs:=Own.Blk.chg h hd.chg hp
theorem zAr (w:World) (t:TypeId) (ss:List ByteArray) (cs:Array Value) (h:cs=uQ ss):Strs (w.alloc (.cells cs t)) (w.alloc (.cells cs t)).heap.size (some ⟨w.heap.size,0,none⟩) ss.length ss:=by
 subst h;exact(Strs.made w t ss).more (by simp)
theorem zJD (w:World) (t:TypeId) (zs:List Int) (cs:Array Value) (h:cs=(zs.map (Value.int .i64)).toArray):Ints (w.alloc (.cells cs t)) (w.alloc (.cells cs t)).heap.size (some ⟨w.heap.size,0,none⟩) zs.length zs:=by
 subst h;refine⟨rfl,fun hn=>⟨w.heap.size,0,rfl,by simp,fun j hj=>?_⟩⟩;refine(Blk.cell (t:=t) (heap_alloc_new w _) _).trans ?_;simp[List.getD_eq_getElem?_getD,List.getElem?_eq_getElem hj]
theorem SrcR.reads_nodes {w w':World} {p K K' n:Nat} {A:Option Addr} {fs:List NodeD} (h:SrcR w p K) (hs:Nodes w w.heap.size A n fs) (hd:Drawn p K' w w'):Nodes w' w'.heap.size A n fs:=by
 refine⟨hs.1,fun hn=>?_⟩;obtain⟨b,o,e,hb,hc⟩:=hs.2 hn;have hne:b≠p:=by obtain⟨c0,c1,c2,h0,_,_,hr⟩:=hc 0 hn;refine h.ne h0 ?_;rw[hr.1];exact⟨fun _ _ _=>by simp,fun _=>by simp,fun _=>by simp⟩
 refine⟨b,o,e,Nat.lt_of_lt_of_le hb hd.chg.size,fun j hj=>?_⟩;obtain⟨c0,c1,c2,h0,h1,h2,e0,⟨A1,n1,p1,e1,s1,k1⟩,e2⟩:=hc j hj;have hk:∀i,w'.cell? ⟨b,i,none⟩=w.cell? ⟨b,i,none⟩:=fun i=>World.cell?_of_block (w:=w) (hd.chg.block b hb hne);exact⟨c0,c1,c2,(hk _).trans h0,(hk _).trans h1,(hk _).trans h2,e0,⟨A1,n1,p1,e1,h.strs s1 hd,k1⟩,e2⟩
end Go.Proofs.YtgmaamnofhmecaaGreatDoor
