import Derived.Test.YtfpcjhajjejpdaaGreatDoorZ00
import Derived.Test.YtfpcjhajjejpdaaGreatDoorZ01
import Derived.Test.YtfpcjhajjejpdaaGreatDoorZ07
import Derived.Test.YtfpcjhajjejpdaaGreatDoorZ24
import Derived.Laws.BitsAllLaws
set_option maxHeartbeats 1000000
open Go.Lib renaming hid → zh
namespace Go.Proofs.YtfpcjhajjejpdaaGreatDoor
open Go.RowKit _root_.Go.Proofs.YtfpcjhajjejpdaaGreatDoor.Own
set_option linter.unusedVariables false
def Ints (w:World) (B:Nat) (A:Option Addr) (n:Nat) (zs:List Int):Prop :=
 zs.length=n∧(0<n→∃b o,A=some ⟨b,o,none⟩∧b<B∧∀j,j<n→w.cell? ⟨b,o+j,none⟩=some (.int .i64 (zs.getD j 0)))
section
variable {w w':World} {B B' n:Nat} {A:Option Addr} {zs:List Int}
theorem Ints.keep (h:Ints w B A n zs) (hk:∀p:Addr,p.block<B→w'.cell? p=w.cell? p):Ints w' B A n zs :=
 ⟨h.1,fun hn=>by
   obtain⟨b,o,e,hb,hc⟩:=h.2 hn
   exact⟨b,o,e,hb,fun j hj=>(hk _ hb).trans (hc j hj)⟩⟩
theorem Ints.more (h:Ints w B A n zs) (hB:B≤B'):Ints w B' A n zs :=
 ⟨h.1,fun hn=>by
   obtain⟨b,o,e,hb,hc⟩:=h.2 hn
   exact⟨b,o,e,by omega,hc⟩⟩
theorem Ints.later (h:Ints w w.heap.size A n zs) (hb:Below w.heap.size w w'):Ints w' w'.heap.size A n zs:=(h.keep fun _ hp=>hb.cell hp).more hb.size
end
def BytesR (w:World) (B:Nat) (A:Option Addr) (n:Nat):Prop:=0<n→∃b o,A=some ⟨b,o,none⟩∧b<B∧∀j,j<n→∃x:Nat,w.cell? ⟨b,o+j,none⟩=some (.int .u8 x)∧x≤255
def SrcR (w:World) (p K:Nat):Prop:=∃(A:Option Addr) (n c a s:Nat),Blk w p 117 #[.slice A n c,.int .i64 a,.int .u64 s]∧BytesR w p A n∧a≤K∧n≤1048576∧s<18446744073709551616
theorem BytesR.later {w w':World} {B:Nat} {A:Option Addr} {n:Nat} (h:BytesR w B A n) (hk:∀i,i<B→w'.heap[i]?=w.heap[i]?):BytesR w' B A n:=fun hn=>by
 obtain⟨b,o,e,hb,hc⟩:=h hn;refine⟨b,o,e,hb,fun j hj=>?_⟩;obtain⟨x,h1,h2⟩:=hc j hj;exact⟨x,(World.cell?_of_block (w:=w) (hk b hb)).trans h1,h2⟩
theorem SrcR.later {w w':World} {p K:Nat} (h:SrcR w p K) (hb:Below w.heap.size w w'):SrcR w' p K:=by
 obtain⟨A,n,c,a,s,hB,hY,h1,h2,h3⟩:=h;exact⟨A,n,c,a,s,hB.later hb hB.lt,hY.later (fun i hi=>hb.block i (by have:=hB.lt;omega)),h1,h2,h3⟩
theorem SrcR.mono {w:World} {p K K':Nat} (h:SrcR w p K) (hK:K≤K'):SrcR w p K':=by
 obtain⟨A,n,c,a,s,hB,hY,h1,h2,h3⟩:=h;exact⟨A,n,c,a,s,hB,hY,by omega,h2,h3⟩
theorem SrcR.lt {w:World} {p K:Nat} (h:SrcR w p K):p<w.heap.size:=by
 obtain⟨A,n,c,a,s,hB,_⟩:=h;exact hB.lt
structure Drawn (p K:Nat) (w w':World):Prop where
 src:SrcR w' p K
 chg:Chg (fun g=>g=p) w w'
theorem Drawn.later {p K:Nat} {a b c:World} (h:Drawn p K a b) (hb:Below b.heap.size b c):Drawn p K a c:=⟨h.src.later hb,h.chg.trans (Chg.of_below hb)⟩
theorem Drawn.trans {p K K':Nat} {a b c:World} (h:Drawn p K a b) (k:Drawn p K' b c):Drawn p K' a c:=⟨k.src,h.chg.trans k.chg⟩
theorem SrcR.not_own {w:World} {p K:Nat} (h:SrcR w p K) {base e size n:Nat} {v:Value} {xs:List Value} (hr:w.ownsRow base e size v n xs) (he:e≠117):Own.inP (fun g=>¬g=p) v:=fun g hg e1=>by
 obtain⟨A,m,c,a,s,hB,_⟩:=h;subst e1;exact own_blk_ne hr hB he hg
theorem OwnL.drawn {α:Type} [Inhabited α] {D:Kind α} {w w':World} {p K K' base t:Nat} {v:Value} {fs:List α} {vs:List Value} (h:OwnL D w base t v fs vs) (hs:SrcR w p K) (hd:Drawn p K' w w') (ht:t≠117):OwnL D w' base t v fs vs :=
 OwnL.chg h hd.chg (hs.not_own h.row ht) (fun u hu=>by
  obtain⟨j,hj,rfl⟩:=mem_getD hu
  exact hs.not_own (h.subs j (by rw[←h.len];exact hj)) (by decide))
theorem _root_.Go.Proofs.YtfpcjhajjejpdaaGreatDoor.Own.Chg.drewN {P:Nat→Prop} {a b:World} (h:Chg P a b) (q:Nat):Chg P a (b.drewN q):=h.trans (Chg.of_below (vA (Below.refl _ _) q))
theorem zIM {w:World} {p K a s s2 n c:Nat} {A:Option Addr} (hB:Blk w p 117 #[.slice A n c,.int .i64 a,.int .u64 s]) (hY:BytesR w p A n) (ha:a≤K) (hn:n≤1048576) (hs:s2<18446744073709551616) (q q2:Nat) :
 Drawn p (K+1) w ((((w.drewN q).setCell ⟨p,1,none⟩ (.int .i64 ((a:Int)+1))).setCell ⟨p,2,none⟩ (.int .u64 s2)).drewN q2):=by
 have hc:Chg (fun g=>g=p) w ((((w.drewN q).setCell ⟨p,1,none⟩ (.int .i64 ((a:Int)+1))).setCell ⟨p,2,none⟩ (.int .u64 s2)).drewN q2) :=
  Chg.drewN (Chg.set (Chg.set (P:=fun g=>g=p) (Chg.drewN (Chg.refl (fun g=>g=p) w) q) (g:=p) rfl 1 (.int .i64 ((a:Int)+1))) (g:=p) rfl 2 (.int .u64 s2)) q2
 have h1:Blk (w.drewN q) p 117 #[.slice A n c,.int .i64 a,.int .u64 s]:=hB;have h2:=(h1.set_ 1 (.int .i64 ((a:Int)+1))).set_ 2 (.int .u64 s2)
 have h3:Blk ((((w.drewN q).setCell ⟨p,1,none⟩ (.int .i64 ((a:Int)+1))).setCell ⟨p,2,none⟩ (.int .u64 s2)).drewN q2) p 117 #[.slice A n c,.int .i64 ((a+1:Nat):Int),.int .u64 s2]:=by
  have h4:Blk ((((w.drewN q).setCell ⟨p,1,none⟩ (.int .i64 ((a:Int)+1))).setCell ⟨p,2,none⟩ (.int .u64 s2))) p 117 #[.slice A n c,.int .i64 ((a+1:Nat):Int),.int .u64 s2]:=by simpa using h2
  exact h4
 exact⟨⟨A,n,c,a+1,s2,h3,hY.later (fun i hi=>hc.block i (by have:=hB.lt;omega) (by omega)),by omega,hn,hs⟩,hc⟩
theorem zKC (s:Nat) (h:s<18446744073709551616):∃x:Nat,wrap64 (bits BinOp.and IntKind.u64 ((s:Int) / 1099511627776) 255)=x∧x≤255:=by
 have e:(s:Int) / 1099511627776=((s / 1099511627776:Nat):Int):=by omega
 have h1:=u64_and_nat (s / 1099511627776) 255 (by omega) (by omega);have h2:s / 1099511627776 &&& 255≤255:=Nat.and_le_right;refine⟨s / 1099511627776 &&& 255,?_,h2⟩;rw[e];have h3:bits BinOp.and IntKind.u64 ((s / 1099511627776:Nat):Int) 255=((s / 1099511627776 &&& 255:Nat):Int):=h1;rw[h3];unfold wrap64;omega
theorem zII (z:Int):∃s:Nat,IntKind.u64.wrap z=s∧s<18446744073709551616 :=
 ⟨(z % 18446744073709551616).toNat,by rw[IntKind.wrap_u64];omega,by omega⟩
theorem zGw (p K:Nat) (w:World) (h:SrcR w p K) (hK:K≤1099511627776) :
 Calls Tryz.prog 153 #[.pointer (some ⟨p,0,none⟩)] w fun e w'=>∃x:Nat,e=.returned (.int .i64 x)∧x≤255∧Drawn p (K+1) w w':=by
 obtain⟨A,n,c,a,s,hB,hY,ha,hn,hs⟩:=h;have HB:=zh hB;have HY:=zh hY;have c0:=hB.cell 0;have c1:=hB.cell 1;have c2:=hB.cell 2;have f1:=hB.frozen 1;have f2:=hB.frozen 2;have hz:=hB.lt;simp at c0 c1 c2;clear hB hY;go_enter Tryz.func153,Tryz.ntmps153;by_cases hlt:a<n
 · obtain⟨b,o,rfl,hb,hc⟩:=HY.out (by omega);obtain⟨x,hx,hx2⟩:=hc a hlt;clear hc;go_wp2_with fail
   go_quiet (fail)
   go_wp2_with fail
   go_quiet (fail)
   go_wp2_with fail;obtain⟨s2,hs2,hs3⟩:=zII (IntKind.u64.wrap (IntKind.u64.wrap ((s:Int)*6364136223846793005)+x)+1442695040888963407);rw[hs2];clear hs2
   go_quiet (fail)
   go_wp2_with fail;go_ret;exact⟨x,rfl,hx2,zIM HB.out HY.out ha hn hs3 _ _⟩
 · go_wp2_with fail
   go_quiet (fail)
   go_wp2_with fail;obtain⟨s2,hs2,hs3⟩:=zII (IntKind.u64.wrap (IntKind.u64.wrap ((s:Int)*6364136223846793005))+1442695040888963407);rw[hs2];clear hs2;have hnot:¬(a:Int)+1≤(n:Int):=by omega
   go_quiet (fail)
   go_wp2_with fail;obtain⟨x,hx,hx2⟩:=zKC s2 hs3;rw[hx];go_ret;exact⟨x,rfl,hx2,zIM HB.out HY.out ha hn hs3 _ _⟩
theorem Drawn.refl {p K:Nat} {w:World} (h:SrcR w p K):Drawn p K w w:=⟨h,Chg.refl _ _⟩
theorem Drawn.mono {p K K':Nat} {a b:World} (h:Drawn p K a b) (hK:K≤K'):Drawn p K' a b:=⟨h.src.mono hK,h.chg⟩
theorem zHe (z n:Int) (h:0<n):∃x:Nat,z % n=x∧(x:Int)<n :=
 ⟨(z % n).toNat,by have:=Int.emod_nonneg z (show n≠0 by omega);omega,by have:=Int.emod_lt_of_pos z h;have:=Int.emod_nonneg z (show n≠0 by omega);omega⟩
theorem uE (p K:Nat) (n:Int) (w:World) (h:SrcR w p K) (hK:K≤1099511627775) (hn:n≤4294967296) :
 Calls Tryz.prog 93 #[.pointer (some ⟨p,0,none⟩),.int .i64 n] w fun e w'=>∃x:Nat,e=.returned (.int .i64 x)∧((x:Int)<n∨x=0)∧Drawn p (K+2) w w':=by
 have HK1:=zh (zGw p K w h (by omega));have HK2:=zh (fun W (hW:SrcR W p (K+1))=>zGw p (K+1) W hW (by omega));have HD0:=zh ((Drawn.refl h).mono (show K≤K+2 by omega));clear h;go_enter Tryz.func93,Tryz.ntmps93;by_cases h1:n≤1
 · go_wp2_with fail;go_ret;exact⟨0,rfl,.inr rfl,HD0.out⟩
 · go_wp2_with fail;refine HK1.out.mono ?_;rintro e w1 ⟨x,rfl,hx,hd1⟩;have HD1:=zh (hd1.mono (show K+1≤K+2 by omega));have HN:=zh (HK2.out w1 hd1.src);have HD2:=zh hd1;clear hd1 HK1 HK2;have hn0:¬n=0:=by omega
   by_cases h2:200<n
   · go_wp2_with fail;refine HN.out.mono ?_;rintro e w2 ⟨y,rfl,hy,hd2⟩;have HD3:=zh (HD2.out.trans hd2);clear hd2;go_wp2_with fail;obtain⟨z,hz1,hz2⟩:=zHe ((x:Int)*256+y) n (by omega);rw[hz1];go_ret;exact⟨z,rfl,.inl hz2,HD3.out⟩
   · go_wp2_with fail;obtain⟨z,hz1,hz2⟩:=zHe (x:Int) n (by omega);rw[hz1];go_ret;exact⟨z,rfl,.inl hz2,HD1.out⟩
theorem yV (p K:Nat) (n:Int) (w:World) (h:SrcR w p K) (hK:K≤1099511627775) (hn:n≤4294967296) :
 Calls Tryz.prog 40 #[.pointer (some ⟨p,0,none⟩),.int .i64 n] w fun e w'=>∃b:Bool,e=.returned (.bool b)∧Drawn p (K+2) w w':=by
 have HK1:=zh (uE p K n w h hK hn);clear h;go_enter Tryz.func40,Tryz.ntmps40;go_wp2_with fail;refine HK1.out.mono ?_;rintro e w1 ⟨x,rfl,_,hd1⟩;have HD1:=zh hd1;clear hd1;go_wp2_with fail;go_ret;exact⟨_,rfl,HD1.out⟩
theorem SrcR.ne {w:World} {p K b o:Nat} {v:Value} (h:SrcR w p K) (hv:w.cell? ⟨b,o,none⟩=some v) (h1:(∀A n c,v≠.slice A n c)∧(∀z,v≠.int .i64 z)∧(∀z,v≠.int .u64 z)):b≠p:=by
 rintro rfl;obtain⟨A,n,c,a,s,hB,_⟩:=h;have h2:=(hB.cell o).symm.trans hv;rcases o with _ | _ | _ | o
 · exact h1.1 _ _ _ (by simpa using h2.symm)
 · exact h1.2.1 _ (by simpa using h2.symm)
 · exact h1.2.2 _ (by simpa using h2.symm)
 · simp at h2
theorem SrcR.strs {w w':World} {p K K' n:Nat} {A:Option Addr} {ss:List ByteArray} (h:SrcR w p K) (hs:Strs w w.heap.size A n ss) (hd:Drawn p K' w w'):Strs w' w'.heap.size A n ss:=by
 refine⟨hs.1,fun hn=>?_⟩;obtain⟨b,o,e,hb,hc⟩:=hs.2 hn;have hne:b≠p:=h.ne (hc 0 hn) ⟨fun _ _ _=>by simp,fun _=>by simp,fun _=>by simp⟩;exact⟨b,o,e,Nat.lt_of_lt_of_le hb hd.chg.size,fun j hj=>(World.cell?_of_block (w:=w) (hd.chg.block b hb hne)).trans (hc j hj)⟩
theorem zG0 (p K:Nat) (A:Option Addr) (n c:Nat) (ss:List ByteArray) (w:World) (h:SrcR w p K) (hK:K≤1099511627775) (hs:Strs w w.heap.size A n ss) (hn:0<n) (hn2:n≤1048576) :
 Calls Tryz.prog 96 #[.pointer (some ⟨p,0,none⟩),.slice A n c] w fun e w'=>∃s∈ss,e=.returned (.string s)∧Drawn p (K+2) w w':=by
 have HK1:=zh (uE p K n w h hK (by omega));have HS:=zh (fun w' (hd:Drawn p (K+2) w w')=>h.strs hs hd);have HL:Hid (ss.length=n):=hs.1;clear h hs;go_enter Tryz.func96,Tryz.ntmps96;go_wp2_with fail;refine HK1.out.mono ?_;rintro e w1 ⟨x,rfl,hx,hd1⟩;have hxn:x<n:=by omega
 obtain⟨b,o,rfl,hb,hc⟩:=(HS.out w1 hd1).2 hn;have hcx:=hc x hxn;have HM:Hid (ss.getD x ByteArray.empty∈ss):=mem_of_getD ss x _ (by rw[HL.out];exact hxn);have HD1:=zh hd1;clear hd1 hc hx HS;generalize ss.getD x ByteArray.empty=t at *;go_wp2_with fail;go_ret;exact⟨t,HM.out,rfl,HD1.out⟩
theorem wP (p K:Nat) (b n c:Nat) (zs:List Int) (w:World) (h:SrcR w p K) (hK:K≤1099511627775) (hs:Ints w w.heap.size (some ⟨b,0,none⟩) n zs) (hbp:b≠p) (hn:0<n) (hn2:n≤1048576) :
 Calls Tryz.prog 99 #[.pointer (some ⟨p,0,none⟩),.slice (some ⟨b,0,none⟩) n c] w fun e w'=>∃z∈zs,e=.returned (.int .i64 z)∧Drawn p (K+2) w w':=by
 have HK1:=zh (uE p K n w h hK (by omega));have HS:Hid (∀w',Drawn p (K+2) w w'→Ints w' w'.heap.size (some ⟨b,0,none⟩) n zs):=fun w' hd=>by refine⟨hs.1,fun hn=>?_⟩;obtain⟨b',o,e,hb,hc⟩:=hs.2 hn;cases e;exact⟨b,0,rfl,Nat.lt_of_lt_of_le hb hd.chg.size,fun j hj=>(World.cell?_of_block (w:=w) (hd.chg.block b hb hbp)).trans (hc j hj)⟩
 have HL:Hid (zs.length=n):=hs.1;clear h hs;go_enter Tryz.func99,Tryz.ntmps99;go_wp2_with fail;refine HK1.out.mono ?_;rintro e w1 ⟨x,rfl,hx,hd1⟩;have hxn:x<n:=by omega
 obtain⟨b',o,e,hb,hc⟩:=(HS.out w1 hd1).2 hn;cases e;have hcx:=hc x hxn;have HM:Hid (zs.getD x 0∈zs):=mem_of_getD zs x _ (by rw[HL.out];exact hxn);have HD1:=zh hd1;clear hd1 hc hx HS;rw[Nat.zero_add]at hcx;generalize zs.getD x 0=t at *;go_wp2_with fail;go_ret;exact⟨t,HM.out,rfl,HD1.out⟩
theorem _root_.Go.Proofs.YtfpcjhajjejpdaaGreatDoor.Own.Chg.fresh {P Q:Nat→Prop} {a b c:World} (h:Chg P a b) (k:Chg Q b c) (hQ:∀g,Q g→a.heap.size≤g):Chg P a c :=
 ⟨k.os.trans h.os,k.tape.trans h.tape,k.output.trans h.output,Nat.le_trans h.size k.size,fun i hi' hr=>(k.block i (Nat.lt_of_lt_of_le hi' h.size) (fun hq=>by have:=hQ i hq;omega)).trans (h.block i hi' hr)⟩
theorem SrcR.chg {P:Nat→Prop} {w w':World} {p K:Nat} (h:SrcR w p K) (k:Chg P w w') (hP:∀g,P g→p<g):SrcR w' p K:=by
 obtain⟨A,n,c,a,s,hB,hY,h1,h2,h3⟩:=h;exact⟨A,n,c,a,s,Own.Blk.chg hB k (fun hp=>Nat.lt_irrefl _ (hP _ hp)),hY.later (fun i hi=>k.block i (by have:=hB.lt;omega) (fun hp=>by have:=hP _ hp;omega)),h1,h2,h3⟩
theorem Drawn.pre {p K:Nat} {a b c:World} (hb:Below a.heap.size a b) (h:Drawn p K b c):Drawn p K a c:=⟨h.src,(Chg.of_below hb).trans h.chg⟩
theorem Drawn.grown {p K:Nat} {a b c:World} {row:Option Nat} (h:Drawn p K a b) (hg:b.grownBy c row) (hr:∀g,row=some g→a.heap.size≤g) (hp:p<a.heap.size):Drawn p K a c :=
 ⟨h.src.chg (Chg.of_grown (P:=fun g=>a.heap.size≤g) hg hr) (fun g hg'=>Nat.lt_of_lt_of_le hp hg'),h.chg.fresh (Chg.of_grown (P:=fun g=>a.heap.size≤g) hg hr) (fun g hg'=>hg')⟩
theorem Drawn.lt {p K:Nat} {a b:World} (h:Drawn p K a b):p<b.heap.size:=h.src.lt
theorem SubO.drawn {w w':World} {p K K' base:Nat} {v:Value} {ss:List ByteArray} (h:SubO w base v ss) (hs:SrcR w p K) (hd:Drawn p K' w w'):SubO w' base v ss :=
 own_chg h hd.chg (hs.not_own h (by decide))
theorem Blk.drawn {w w':World} {p K g t:Nat} {cs:Array Value} (h:Blk w g t cs) (hd:Drawn p K w w') (hp:g≠p):Blk w' g t cs:=Own.Blk.chg h hd.chg hp
theorem uG (w:World) (t:TypeId) (ss:List ByteArray) (cs:Array Value) (h:cs=wX ss):Strs (w.alloc (.cells cs t)) (w.alloc (.cells cs t)).heap.size (some ⟨w.heap.size,0,none⟩) ss.length ss:=by
 subst h;exact(Strs.made w t ss).more (by simp)
theorem zAt (w:World) (t:TypeId) (zs:List Int) (cs:Array Value) (h:cs=(zs.map (Value.int .i64)).toArray):Ints (w.alloc (.cells cs t)) (w.alloc (.cells cs t)).heap.size (some ⟨w.heap.size,0,none⟩) zs.length zs:=by
 subst h;refine⟨rfl,fun hn=>⟨w.heap.size,0,rfl,by simp,fun j hj=>?_⟩⟩;refine(Blk.cell (t:=t) (heap_alloc_new w _) _).trans ?_;simp[List.getD_eq_getElem?_getD,List.getElem?_eq_getElem hj]
theorem SrcR.reads_table {w w':World} {p K K':Nat} {c0 c1 c2 c3:Value} {d:TableD} (h:SrcR w p K) (hs:TableR w w.heap.size c0 c1 c2 c3 d) (hd:Drawn p K' w w'):TableR w' w'.heap.size c0 c1 c2 c3 d:=by
 obtain⟨e0,e1,⟨A2,n2,p2,e2,s2,k2⟩,⟨A3,n3,p3,e3,s3,k3⟩⟩:=hs;exact⟨e0,e1,⟨A2,n2,p2,e2,h.strs s2 hd,k2⟩,⟨A3,n3,p3,e3,h.strs s3 hd,k3⟩⟩
end Go.Proofs.YtfpcjhajjejpdaaGreatDoor
namespace Go.Proofs.YtfpcjhajjejpdaaGreatDoor
open Go.RowKit
set_option linter.unusedVariables false
def zAc (nm:ByteArray) (ss:List ByteArray) (d:NodeD):Bool:=zAd d.name d.subs nm ss
def atN (fs:List NodeD) (nm:ByteArray) (ss:List ByteArray):Nat:=(fs.takeWhile (zAc nm ss)).length
def zHa (nm:ByteArray) (ss:List ByteArray) (d:NodeD):Bool:=decide (d.name=nm)&&decide (d.subs=ss)
def zAR (fs:List NodeD) (nm:ByteArray) (ss:List ByteArray):Bool:=decide (atN fs nm ss<fs.length)&&zHa nm ss (fs.getD (atN fs nm ss) default)
def zEK (fs:List NodeD) (nm:ByteArray) (ss:List ByteArray) (v:ByteArray):List NodeD :=
 fs.take (atN fs nm ss)++⟨nm,ss,v⟩::fs.drop (if zAR fs nm ss=true then atN fs nm ss+1 else atN fs nm ss)
def zCA (fs:List NodeD) (nm:ByteArray) (ss:List ByteArray) (v:ByteArray):Int × List NodeD :=
 if (!zAR fs nm ss&&decide (120≤fs.length))=true then (4,[]) else (0,zEK fs nm ss v)
def inN (nm:ByteArray) (ss:List ByteArray) (d:NodeD):Bool:=decide (d.name=nm)&&xF ss d.subs
def zBf (fs:List NodeD) (nm:ByteArray) (ss:List ByteArray):List NodeD:=fs.filter fun d=>!inN nm ss d
theorem zBw {α:Type} [Inhabited α] (p:α→Bool):∀(l:List α) (k:Nat),k≤l.length→(∀j,j<k→p (l.getD j default)=true)→(k=l.length∨p (l.getD k default)=false)→(l.takeWhile p).length=k
 | [],k,h,_,_=>by simp at h;simp[h]
 | x::r,0,_,_,h2=>by
   rcases h2 with h2 | h2
   · simp at h2
   · simp only[List.getD_cons_zero]at h2;simp[h2]
 | x::r,k+1,h,h1,h2=>by have h0:=h1 0 (by omega);simp only[List.getD_cons_zero]at h0;have ih:=zBw p r k (by simpa using h) (fun j hj=>by simpa using h1 (j+1) (by omega)) (by simpa using h2);simp[h0,ih]
theorem zAC {α:Type} [Inhabited α] (p:α→Bool):∀(l:List α),(l.takeWhile p).length≤l.length∧(∀j,j<(l.takeWhile p).length→p (l.getD j default)=true)∧((l.takeWhile p).length<l.length→p (l.getD (l.takeWhile p).length default)=false)
 | []=>by simp
 | x::r=>by
   obtain⟨h1,h2,h3⟩:=zAC p r;by_cases h:p x=true
   · rw[List.takeWhile_cons,if_pos h];refine⟨by simpa using h1,fun j hj=>?_,fun hl=>?_⟩
     · match j with
       | 0=>simpa using h
       | j+1=>simpa using h2 j (by simpa using hj)
     · simpa using h3 (by simpa using hl)
   · rw[List.takeWhile_cons,if_neg h];refine⟨by simp,fun j hj=>absurd hj (by simp),fun _=>by simpa using h⟩
theorem zLT {fs:List NodeD} {nm:ByteArray} {ss:List ByteArray} {k:Nat} (hk:k≤fs.length) (h1:∀j,j<k→zAc nm ss (fs.getD j default)=true) (h2:k=fs.length∨zAc nm ss (fs.getD k default)=false):atN fs nm ss=k:=zBw _ _ _ hk h1 h2
theorem zIu (fs:List NodeD) (nm:ByteArray) (ss:List ByteArray):atN fs nm ss≤fs.length:=(zAC _ fs).1
theorem tree_iff {l:List NodeD}:uA l=true↔l.length≤120∧(∀d∈l,yZ d=true)∧l.Pairwise fun a b=>zM0 a b=true:=by
 constructor
 · intro h;refine⟨?_,fun d hd=>?_,zIJ h⟩
   · unfold uA at h;rw[Bool.and_eq_true]at h;exact of_decide_eq_true h.1
   · unfold uA at h;rw[Bool.and_eq_true]at h;obtain⟨i,hi,rfl⟩:=List.getElem_of_mem hd;have h2:=(wO (zJ0 l) l.length 0).1 h.2 i (by omega) (by omega);unfold zJ0 at h2;rw[Bool.and_eq_true,List.getD_eq_getElem?_getD,List.getElem?_eq_getElem hi]at h2;exact h2.1
 · rintro⟨h1,h2,h3⟩;unfold uA;rw[Bool.and_eq_true];refine⟨decide_eq_true h1,(wO (zJ0 l) l.length 0).2 fun j _ hj=>?_⟩;have hj:j<l.length:=by omega
   unfold zJ0;rw[Bool.and_eq_true];refine⟨h2 _ (wB l j hj),?_⟩;by_cases h0:j=0
   · simp[h0]
   · rw[Bool.or_eq_true];refine .inr ?_;have:=List.pairwise_iff_getElem.1 h3 (j-1) j (by omega) hj (by omega);rw[List.getD_eq_getElem?_getD,List.getD_eq_getElem?_getD,List.getElem?_eq_getElem hj,List.getElem?_eq_getElem (show j-1<l.length by omega)];exact this
theorem zDd:∀(a b:List ByteArray),a≠b→vI a b=true∨vI b a=true
 | [],[],h=>absurd rfl h
 | [],_::_,_=>.inl rfl
 | _::_,[],_=>.inr rfl
 | x::r,y::s,h=>by
   unfold vI;by_cases e:x=y
   · subst e;rw[if_pos rfl,if_pos rfl];exact zDd r s (fun e=>h (by rw[e]))
   · rw[if_neg e,if_neg (fun e2=>e e2.symm)];exact zAN x y e
theorem zGB {n n':ByteArray} {s s':List ByteArray} (h:¬(n=n'∧s=s')):zBe n s n' s'=true∨zBe n' s' n s=true:=by
 unfold zBe;by_cases e:n=n'
 · subst e;rw[if_pos rfl,if_pos rfl];exact zDd s s' (fun e=>h ⟨rfl,e⟩)
 · rw[if_neg e,if_neg (fun e2=>e e2.symm)]
   cases h1:Op.bytesLess n.toList n'.toList with
   | true=>exact .inl rfl
   | false =>
     cases h2:Op.bytesLess n'.toList n.toList with
     | true=>exact .inr rfl
     | false=>exact absurd (uR (zEu _ _ h1 h2)) e
theorem zGh {a b:NodeD} (h:¬(a.name=b.name∧a.subs=b.subs)):zM0 a b=true∨zM0 b a=true:=by
 unfold zM0;rw[zAz,zAz];exact zGB h
theorem zJx {fs:List NodeD} (h:uA fs=true) (nm:ByteArray) (ss:List ByteArray) (v:ByteArray) :
 (∀d∈fs.take (atN fs nm ss),zM0 d ⟨nm,ss,v⟩=true)∧(∀d∈fs.drop (if zAR fs nm ss=true then atN fs nm ss+1 else atN fs nm ss),zM0 ⟨nm,ss,v⟩ d=true):=by
 obtain⟨h1,h2,h3⟩:=zAC (zAc nm ss) fs;obtain⟨_,_,hp⟩:=tree_iff.1 h;refine⟨fun d hd=>?_,?_⟩
 · obtain⟨i,hi,rfl⟩:=List.mem_take_iff_getElem.1 hd;have hi2:i<fs.length:=by omega
   have h4:=h2 i (by unfold atN at hi;omega);rw[List.getD_eq_getElem?_getD,List.getElem?_eq_getElem hi2]at h4;exact h4
 · by_cases hh:zAR fs nm ss=true
   · rw[if_pos hh];intro d hd;unfold zAR zHa at hh;simp only[Bool.and_eq_true,decide_eq_true_eq]at hh;obtain⟨hl,e1,e2⟩:=hh;obtain⟨i,hi,rfl⟩:=List.mem_drop_iff_getElem.1 hd;have:=List.pairwise_iff_getElem.1 hp (atN fs nm ss) (atN fs nm ss+1+i) hl (by omega) (by omega);rw[List.getD_eq_getElem?_getD,List.getElem?_eq_getElem hl,Option.getD_some]at e1 e2;unfold zM0 at this ⊢;rw[e1,e2]at this;exact this
   · rw[if_neg hh];intro d hd;obtain⟨i,hi,rfl⟩:=List.mem_drop_iff_getElem.1 hd;have hl:atN fs nm ss<fs.length:=by omega
     have h4:=h3 (by unfold atN at hl;exact hl)
     have h5:zM0 ⟨nm,ss,v⟩ fs[atN fs nm ss]=true:=by
      have hne:¬(fs[atN fs nm ss].name=nm∧fs[atN fs nm ss].subs=ss):=fun ⟨e1,e2⟩=>hh (by
       unfold zAR zHa;rw[List.getD_eq_getElem?_getD,List.getElem?_eq_getElem hl,Option.getD_some,e1,e2]
       simp[hl])
      rcases zGh (a:=fs[atN fs nm ss]) (b:=⟨nm,ss,v⟩) hne with h6 | h6
      · exfalso;have h7:zAc nm ss (fs.getD (atN fs nm ss) default)=false:=h4;rw[List.getD_eq_getElem?_getD,List.getElem?_eq_getElem hl,Option.getD_some]at h7;have h8:zM0 fs[atN fs nm ss] ⟨nm,ss,v⟩=zAc nm ss fs[atN fs nm ss]:=rfl;rw[h8,h7]at h6;cases h6
      · exact h6
     by_cases h0:i=0
     · subst h0;simpa using h5
     · have:=List.pairwise_iff_getElem.1 hp (atN fs nm ss) (atN fs nm ss+i) hl (by omega) (by omega);exact zAX h5 this
theorem zGs {fs:List NodeD} {nm:ByteArray} {ss:List ByteArray} {v:ByteArray} (h:uA fs=true) (hp:zH0 nm ss=true) (hv:v.size≤64) (h0:(zCA fs nm ss v).1=0):uA (zCA fs nm ss v).2=true:=by
 unfold zCA at h0 ⊢;split at h0
 · cases h0
 · next hn =>
   rw[if_neg hn];obtain⟨h1,h2⟩:=zJx h nm ss v;obtain⟨g1,g2,g3⟩:=tree_iff.1 h;have hle:=zIu fs nm ss;refine tree_iff.2 ⟨?_,fun d hd=>?_,?_⟩
   · unfold zEK;rw[List.length_append,List.length_cons,List.length_take,List.length_drop];by_cases hh:zAR fs nm ss=true
     · rw[if_pos hh];have:atN fs nm ss<fs.length:=by unfold zAR at hh;rw[Bool.and_eq_true]at hh;exact of_decide_eq_true hh.1
       omega
     · rw[if_neg hh];have h3:¬120≤fs.length:=fun h3=>hn (by simp[hh,h3]);omega
   · unfold zEK at hd;rcases List.mem_append.1 hd with h3 | h3
     · exact g2 d (List.mem_of_mem_take h3)
     · rcases List.mem_cons.1 h3 with h4 | h4
       · subst h4;unfold yZ;rw[hp,decide_eq_true hv];rfl
       · exact g2 d (List.mem_of_mem_drop h4)
   · unfold zEK;rw[List.pairwise_append,List.pairwise_cons];refine⟨g3.sublist (List.take_sublist _ _),⟨h2,g3.sublist (List.drop_sublist _ _)⟩,fun a ha b hb=>?_⟩;rcases List.mem_cons.1 hb with h4 | h4
     · subst h4;exact h1 a ha
     · exact zAX (h1 a ha) (h2 b h4)
theorem zFl {fs:List NodeD} (nm:ByteArray) (ss:List ByteArray) (h:uA fs=true):uA (zBf fs nm ss)=true:=by
 obtain⟨g1,g2,g3⟩:=tree_iff.1 h;exact tree_iff.2 ⟨Nat.le_trans (List.length_filter_le _ _) g1,fun d hd=>g2 d (List.mem_filter.1 hd).1,g3.filter _⟩
theorem zDF:uA []=true:=tree_iff.2 ⟨by simp,fun d hd=>by simp at hd,List.Pairwise.nil⟩
theorem wN {fs:List NodeD} (h:uA fs=true):vF fs:=by
 obtain⟨g1,g2,_⟩:=tree_iff.1 h;refine⟨by omega,fun d hd=>?_⟩;have h2:=g2 d hd;unfold yZ zH0 zB0 xQ at h2;simp only[Bool.and_eq_true,decide_eq_true_eq,List.all_eq_true]at h2;obtain⟨⟨⟨a1,_⟩,b1,b2⟩,c1⟩:=h2;refine⟨by omega,⟨by omega,fun s hs=>?_⟩,by omega⟩;have:=b2 s hs;unfold wV at this;simp only[Bool.and_eq_true,decide_eq_true_eq]at this;omega
structure ChgD where
 kind:Int
 name:ByteArray
 subs:List ByteArray
 val:ByteArray
deriving Inhabited
def xP (c:ChgD):Bool:=zH0 c.name c.subs&&((decide (c.kind=1)&&decide (c.val.size≤64))||(decide (c.kind=2)&&decide (c.val=⟨#[]⟩)))
def doB (fs:List NodeD) (c:ChgD):Int × List NodeD:=if c.kind=1 then zCA fs c.name c.subs c.val else (0,zBf fs c.name c.subs)
def xR (fs:List NodeD) (c:ChgD):Int × List NodeD:=if (uA fs&&xP c)=true then doB fs c else (1,[])
def zAn:List NodeD→List ChgD→Int × List NodeD
 | fs,[]=>(0,fs)
 | fs,c::r=>if (xR fs c).1=0 then zAn (xR fs c).2 r else ((xR fs c).1,[])
def xJ (fs:List NodeD) (cs:List ChgD):Int × List NodeD:=if uA fs=true then (if 120<cs.length then (4,[]) else zAn fs cs) else (1,[])
theorem zEh {fs:List NodeD} {c:ChgD} (h0:(xR fs c).1=0):uA (xR fs c).2=true:=by
 unfold xR at h0 ⊢;split at h0;case isFalse=>cases h0
 case isTrue h =>
  rw[if_pos h];rw[Bool.and_eq_true]at h;obtain⟨h1,h2⟩:=h;unfold xP at h2;rw[Bool.and_eq_true]at h2;unfold doB at h0 ⊢;split at h0
  · next hk=>rw[if_pos hk];refine zGs h1 h2.1 ?_ h0;have:=h2.2;rw[hk]at this;simpa using this
  · next hk=>rw[if_neg hk];exact zFl _ _ h1
theorem zEj:∀(cs:List ChgD) (fs:List NodeD),uA fs=true→(zAn fs cs).1=0→uA (zAn fs cs).2=true
 | [],fs,h,_=>h
 | c::r,fs,h,h0=>by
   unfold zAn at h0 ⊢;split at h0
   · next h1=>rw[if_pos h1];exact zEj r _ (zEh h1) h0
   · next h1=>exact absurd h0 h1
theorem zEi {fs:List NodeD} {cs:List ChgD} (h0:(xJ fs cs).1=0):uA (xJ fs cs).2=true:=by
 unfold xJ at h0 ⊢;split at h0
 · next h =>
   rw[if_pos h];split at h0
   · cases h0
   · next h1=>rw[if_neg h1];exact zEj cs fs h h0
 · cases h0
end Go.Proofs.YtfpcjhajjejpdaaGreatDoor
