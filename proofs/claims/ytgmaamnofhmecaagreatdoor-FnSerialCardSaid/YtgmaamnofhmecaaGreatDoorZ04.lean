import Derived.Test.YtgmaamnofhmecaaGreatDoorZ03
import Derived.Test.YtgmaamnofhmecaaGreatDoorZ00
import Derived.Test.YtgmaamnofhmecaaGreatDoorZ01
import Derived.Deep.RegionHeld3
import Derived.Laws.BitsAllLaws
set_option maxHeartbeats 1000000
open Go.Lib renaming hid → zh
namespace Go.Proofs.YtgmaamnofhmecaaGreatDoor
open Go.RowKit
def zB0:List ByteArray→List ByteArray→Bool
 | [],_=>true
 | _::_,[]=>false
 | x::r,y::s=>decide (x=y)&&zB0 r s
def wD (n:ByteArray) (s:List ByteArray):Bool:=xF n&&yC s
def uE:List ByteArray→List ByteArray→Bool
 | [],[]=>false
 | [],_::_=>true
 | _::_,[]=>false
 | x::r,y::s=>if x=y then uE r s else uA x y
def zAx (n:ByteArray) (s:List ByteArray) (n':ByteArray) (s':List ByteArray):Bool:=if n=n' then uE s s' else Op.bytesLess n.toList n'.toList
theorem zBu:∀(a b:List ByteArray),b.length<a.length→zB0 a b=false
 | [],_,h=>absurd h (by simp)
 | _::_,[],_=>rfl
 | x::r,y::s,h=>by unfold zB0;rw[zBu r s (by simpa using h),Bool.and_false]
theorem vZ (a b:List ByteArray) (k:Nat) (h:k<a.length) (h':k<b.length) :
 zB0 (a.drop k) (b.drop k)=(decide (a.getD k ByteArray.empty=b.getD k ByteArray.empty)&&zB0 (a.drop (k+1)) (b.drop (k+1))):=by
 rw[List.drop_eq_getElem_cons h,List.drop_eq_getElem_cons h'];simp[zB0,List.getD_eq_getElem?_getD,List.getElem?_eq_getElem h,List.getElem?_eq_getElem h']
theorem zAt (b:List ByteArray):zB0 [] b=true:=by cases b <;> rfl
theorem zHa (a b:List ByteArray) (k:Nat) (h:k<a.length) (h':k<b.length) :
 uE (a.drop k) (b.drop k)=if a.getD k ByteArray.empty=b.getD k ByteArray.empty then uE (a.drop (k+1)) (b.drop (k+1)) else uA (a.getD k ByteArray.empty) (b.getD k ByteArray.empty):=by
 rw[List.drop_eq_getElem_cons h,List.drop_eq_getElem_cons h'];simp[uE,List.getD_eq_getElem?_getD,List.getElem?_eq_getElem h,List.getElem?_eq_getElem h']
theorem zEi:∀(a b:List ByteArray),a=[]∨b=[]→uE a b=decide (a.length<b.length)
 | [],[],_=>rfl
 | [],_::_,_=>by simp[uE]
 | _::_,[],_=>by simp[uE]
 | _::_,_::_,h=>by simp at h
theorem zAe:∀(a b:List ByteArray),(decide (a.length=b.length)&&zB0 a b)=eqS a b
 | [],[]=>rfl
 | [],_::_=>by simp[eqS]
 | _::_,[]=>by simp[eqS]
 | x::r,y::s=>by
   have h:=zAe r s;unfold eqS at h ⊢;simp only[zB0,List.length_cons,List.cons.injEq];by_cases hx:x=y
   · subst hx;simp only[decide_true,Bool.true_and,true_and];rw[←h];simp
   · simp[hx]
theorem zDS (A A':Option Addr) (n c n' c':Nat) (ss ts:List ByteArray) (w:World) (h:Strs w w.heap.size A n ss) (h':Strs w w.heap.size A' n' ts) (hn:n≤1048576) (hn':n'≤1048576) :
 Calls Tryz.prog 227 #[.slice A n c,.slice A' n' c'] w fun e w'=>e=.returned (.bool (zB0 ss ts))∧∃q,w'=w.drewN q:=by
 obtain⟨hlen,hc⟩:=h;obtain⟨hlen',hc'⟩:=h';have Hc:=zh hc;have Hlen:=zh hlen;have Hc':=zh hc';have Hlen':=zh hlen';clear hc hlen hc' hlen';by_cases hgt:n'<n
 · have HE:Hid (zB0 ss ts=false):=zBu _ _ (by rw[Hlen.out,Hlen'.out];exact hgt);go_enter Tryz.func227,Tryz.ntmps227;go_wp2_with fail;go_ret;exact⟨zA0 HE.out.symm,0,rfl⟩
 · go_enter Tryz.func227,Tryz.ntmps227;go_wp2_with fail;go_loopw [5] (fun i wr=>∃(k:Nat),k≤n∧i=.int .i64 k∧(∃q,wr=w.drewN q)∧Hid (zB0 ss ts=zB0 (ss.drop k) (ts.drop k))) (fun i _=>n-(intOf i).toNat);case atStart=>exact⟨0,Nat.zero_le _,rfl,⟨0,rfl⟩,rfl⟩
   case round =>
    obtain⟨k,hk,rfl,⟨q,rfl⟩,hS⟩:=hrel;by_cases hlt:k<n
    · obtain⟨b,o,rfl,hb,hcell⟩:=Hc.out (by omega);obtain⟨b',o',rfl,hb',hcell'⟩:=Hc'.out (by omega);have hck:=hcell k hlt;have hck':=hcell' k (by omega);clear hcell hcell';have HS:=zh (vZ ss ts k (by rw[Hlen.out];exact hlt) (by rw[Hlen'.out];omega));generalize ss.getD k ByteArray.empty=s at *;generalize ts.getD k ByteArray.empty=t at *;go_wp2_with fail
      go_quiet (fail)
      go_wp2_with fail
      · go_ret;have hst:s≠t:=zEJ (by assumption);exact⟨zA0 (by rw[hS.out,HS.out,decide_eq_false hst];rfl),_,World.drewN_drewN _ _ _⟩
      · go_roundw;case rel=>have hst:s=t:=zEL (by assumption);exact⟨k+1,by omega,by go_num,⟨_,rfl⟩,by unfold Hid;rw[hS.out,HS.out,decide_eq_true hst];rfl⟩
        case measure=>simp[intOf];omega
    · go_wp2_with fail;go_ret;exact⟨zA0 (by rw[hS.out,List.drop_of_length_le (by rw[Hlen.out];omega),zAt]),_,rfl⟩
theorem zEX (A A':Option Addr) (n c n' c':Nat) (ss ts:List ByteArray) (w:World) (h:Strs w w.heap.size A n ss) (h':Strs w w.heap.size A' n' ts) (hn:n≤1048576) (hn':n'≤1048576) :
 Calls Tryz.prog 175 #[.slice A n c,.slice A' n' c'] w fun e w'=>e=.returned (.bool (eqS ss ts))∧∃q,w'=w.drewN q:=by
 have HK:=zh (zDS A A' n c n' c' ss ts w h h' hn hn');have hE:=zAe ss ts;rw[h.1,h'.1]at hE;clear h h';generalize zB0 ss ts=x at *;generalize eqS ss ts=R at *;by_cases hne:n=n'
 · subst hne;have HE:Hid (x=R):=by unfold Hid;rw[←hE];simp
   clear hE;go_enter Tryz.func175,Tryz.ntmps175;go_wp2_with fail;refine HK.out.mono ?_;rintro e w1 ⟨rfl,q,rfl⟩;go_wp2_with fail;go_ret;exact⟨zA0 HE.out,q,rfl⟩
 · have HE:Hid (false=R):=by unfold Hid;rw[←hE];simp[hne]
   have hb:((n:Int)==(n':Int))=false:=by rw[beq_eq_false_iff_ne];omega
   have hb2:(n==n')=false:=by rw[beq_eq_false_iff_ne];omega
   clear hE hne;go_enter Tryz.func175,Tryz.ntmps175;go_wp2_with fail;go_ret;exact⟨zA0 HE.out,0,rfl⟩
theorem zG0 {a b:ByteArray} (h:a≠b):(a.toList==b.toList)=false:=by
 cases hx:(a.toList==b.toList)
 · rfl
 · exact absurd (uM (by simpa using hx)) h
theorem zBt {a b:ByteArray} (h:a≠b):(!a.toList==b.toList)=true:=by rw[zG0 h];rfl
theorem uT (s:ByteArray) (w:World) (hs:s.size≤1048576) :
 Calls Tryz.prog 133 #[.string s] w fun e w'=>e=.returned (.bool (xF s))∧w=w':=by
 have HK:=zh (zGa s w hs);generalize xF s=x at *;go_enter Tryz.func133,Tryz.ntmps133;go_wp2_with fail;refine HK.out.mono ?_;rintro e w1 ⟨rfl,rfl⟩;go_wp2_with fail;go_ret;exact⟨rfl,rfl⟩
theorem wK (A:Option Addr) (n c:Nat) (ss:List ByteArray) (w:World) (h:Strs w w.heap.size A n ss) (hn:n≤1048576) (hz:∀s∈ss,s.size≤1048576) :
 Calls Tryz.prog 174 #[.slice A n c] w fun e w'=>e=.returned (.bool (yC ss))∧w=w':=by
 have HK:=zh (zAy A n c ss w h hn hz);clear h hz;generalize yC ss=x at *;go_enter Tryz.func174,Tryz.ntmps174;go_wp2_with fail;refine HK.out.mono ?_;rintro e w1 ⟨rfl,rfl⟩;go_wp2_with fail;go_ret;exact⟨rfl,rfl⟩
theorem zDa (a b:ByteArray) (w:World) (ha:a.size≤1048576) (hb:b.size≤1048576) :
 Calls Tryz.prog 263 #[.string a,.string b] w fun e w'=>e=.returned (.bool (uA a b))∧Below w.heap.size w w':=by
 have HK:=zh (zBg a b w ha hb);generalize uA a b=x at *;go_enter Tryz.func263,Tryz.ntmps263;go_wp2_with fail;refine HK.out.mono ?_;rintro e w1 ⟨rfl,hb1⟩;have HB:=zh hb1;clear hb1;go_wp2_with fail;go_ret;exact⟨rfl,HB.out⟩
def inB (n a b:Int):Bool:=decide (a≤n)&&decide (n≤b)
theorem zEl (n a b:Int) (w:World) :
 Calls Tryz.prog 91 #[.int .i64 n,.int .i64 a,.int .i64 b] w fun e w'=>e=.returned (.bool (inB n a b))∧w=w':=by
 unfold inB;by_cases h1:a≤n
 · by_cases h2:n≤b
   all_goals
    go_enter Tryz.func91,Tryz.ntmps91
    go_wp2
    go_ret;exact⟨zA0 (by first | (simp;done) | (simp;omega) | (rw[Bool.eq_iff_iff];simp;omega)),rfl⟩
 · go_enter Tryz.func91,Tryz.ntmps91
   go_wp2
   go_ret;exact⟨zA0 (by first | (simp;done) | (simp;omega) | (rw[Bool.eq_iff_iff];simp;omega)),rfl⟩
theorem zHc (n:Int) (w:World) :
 Calls Tryz.prog 210 #[.int .i64 n] w fun e w'=>e=.returned (.bool (inB n 1 4))∧w=w':=by
 have HK:=zh (zEl n 1 4 w);generalize inB n 1 4=x at *;go_enter Tryz.func210,Tryz.ntmps210;go_wp2_with fail;refine HK.out.mono ?_;rintro e w1 ⟨rfl,rfl⟩;go_wp2_with fail;go_ret;exact⟨rfl,rfl⟩
theorem zCM {ss:List ByteArray} {M:Nat} (hz:∀s∈ss,s.size≤M) (k:Nat) (hk:k<ss.length):(ss.getD k ByteArray.empty).size≤M:=by
 apply hz;rw[List.getD_eq_getElem?_getD,List.getElem?_eq_getElem hk];simp
end Go.Proofs.YtgmaamnofhmecaaGreatDoor
namespace Go.Proofs.YtgmaamnofhmecaaGreatDoor
open Go.RowKit
def wJ {α:Type} (p:α→Bool):List α→Nat→Int
 | [],_=>-1
 | d::r,k=>if p d=true then k else wJ p r (k+1)
theorem yY {α:Type} [Inhabited α] (p:α→Bool) (l:List α) (k:Nat) (h:k<l.length):wJ p (l.drop k) k=if p (l.getD k default)=true then (k:Int) else wJ p (l.drop (k+1)) (k+1):=by
 rw[List.drop_eq_getElem_cons h];simp[wJ,List.getD_eq_getElem?_getD,List.getElem?_eq_getElem h]
end Go.Proofs.YtgmaamnofhmecaaGreatDoor
namespace Go.Proofs.YtgmaamnofhmecaaGreatDoor
open Go.RowKit _root_.Go.Proofs.YtgmaamnofhmecaaGreatDoor.Own
set_option linter.unusedVariables false
def zJF (w:World) (B:Nat) (A:Option Addr) (n:Nat) (zs:List Int):Prop :=
 zs.length=n∧(0<n→∃b o,A=some ⟨b,o,none⟩∧b<B∧∀j,j<n→w.cell? ⟨b,o+j,none⟩=some (.int .i64 (zs.getD j 0)))
def BytesR (w:World) (B:Nat) (A:Option Addr) (n:Nat):Prop:=0<n→∃b o,A=some ⟨b,o,none⟩∧b<B∧∀j,j<n→∃x:Nat,w.cell? ⟨b,o+j,none⟩=some (.int .u8 x)∧x≤255
def SrcR (w:World) (p K:Nat):Prop:=∃(A:Option Addr) (n c a s:Nat),Blk w p 141 #[.slice A n c,.int .i64 a,.int .u64 s]∧BytesR w p A n∧a≤K∧n≤1048576∧s<18446744073709551616
theorem BytesR.later {w w':World} {B:Nat} {A:Option Addr} {n:Nat} (h:BytesR w B A n) (hk:∀i,i<B→w'.heap[i]?=w.heap[i]?):BytesR w' B A n:=fun hn=>by
 obtain⟨b,o,e,hb,hc⟩:=h hn;refine⟨b,o,e,hb,fun j hj=>?_⟩;obtain⟨x,h1,h2⟩:=hc j hj;exact⟨x,(World.cell?_of_block (w:=w) (hk b hb)).trans h1,h2⟩
theorem SrcR.later {w w':World} {p K:Nat} (h:SrcR w p K) (hb:Below w.heap.size w w'):SrcR w' p K:=by
 obtain⟨A,n,c,a,s,hB,hY,h1,h2,h3⟩:=h;exact⟨A,n,c,a,s,hB.later hb hB.lt,hY.later (fun i hi=>hb.block i (by have:=hB.lt;omega)),h1,h2,h3⟩
theorem SrcR.mono {w:World} {p K K':Nat} (h:SrcR w p K) (hK:K≤K'):SrcR w p K':=by
 obtain⟨A,n,c,a,s,hB,hY,h1,h2,h3⟩:=h;exact⟨A,n,c,a,s,hB,hY,by omega,h2,h3⟩
theorem SrcR.lt {w:World} {p K:Nat} (h:SrcR w p K):p<w.heap.size:=by
 obtain⟨A,n,c,a,s,hB,_⟩:=h;exact hB.lt
structure Drawn (p K:Nat) (w w':World):Prop where
 src:SrcR w' p K
 chg:Chg (fun g=>g=p) w w'
theorem Drawn.later {p K:Nat} {a b c:World} (h:Drawn p K a b) (hb:Below b.heap.size b c):Drawn p K a c:=⟨h.src.later hb,h.chg.trans (Chg.of_below hb)⟩
theorem Drawn.trans {p K K':Nat} {a b c:World} (h:Drawn p K a b) (k:Drawn p K' b c):Drawn p K' a c:=⟨k.src,h.chg.trans k.chg⟩
theorem SrcR.not_own {w:World} {p K:Nat} (h:SrcR w p K) {base e size n:Nat} {v:Value} {xs:List Value} (hr:w.ownsRow base e size v n xs) (he:e≠141):Own.inP (fun g=>¬g=p) v:=fun g hg e1=>by
 obtain⟨A,m,c,a,s,hB,_⟩:=h;subst e1;exact own_blk_ne hr hB he hg
theorem OwnL.drawn {α:Type} [Inhabited α] {D:Kind α} {w w':World} {p K K' base t:Nat} {v:Value} {fs:List α} {vs:List Value} (h:OwnL D w base t v fs vs) (hs:SrcR w p K) (hd:Drawn p K' w w') (ht:t≠141):OwnL D w' base t v fs vs :=
 OwnL.chg h hd.chg (hs.not_own h.row ht) (fun u hu=>by
  obtain⟨j,hj,rfl⟩:=mem_getD hu
  exact hs.not_own (h.subs j (by rw[←h.len];exact hj)) (by decide))
theorem _root_.Go.Proofs.YtgmaamnofhmecaaGreatDoor.Own.Chg.drewN {P:Nat→Prop} {a b:World} (h:Chg P a b) (q:Nat):Chg P a (b.drewN q):=h.trans (Chg.of_below (vA (Below.refl _ _) q))
theorem zHK {w:World} {p K a s s2 n c:Nat} {A:Option Addr} (hB:Blk w p 141 #[.slice A n c,.int .i64 a,.int .u64 s]) (hY:BytesR w p A n) (ha:a≤K) (hn:n≤1048576) (hs:s2<18446744073709551616) (q q2:Nat) :
 Drawn p (K+1) w ((((w.drewN q).setCell ⟨p,1,none⟩ (.int .i64 ((a:Int)+1))).setCell ⟨p,2,none⟩ (.int .u64 s2)).drewN q2):=by
 have hc:Chg (fun g=>g=p) w ((((w.drewN q).setCell ⟨p,1,none⟩ (.int .i64 ((a:Int)+1))).setCell ⟨p,2,none⟩ (.int .u64 s2)).drewN q2) :=
  Chg.drewN (Chg.set (Chg.set (P:=fun g=>g=p) (Chg.drewN (Chg.refl (fun g=>g=p) w) q) (g:=p) rfl 1 (.int .i64 ((a:Int)+1))) (g:=p) rfl 2 (.int .u64 s2)) q2
 have h1:Blk (w.drewN q) p 141 #[.slice A n c,.int .i64 a,.int .u64 s]:=hB;have h2:=(h1.set_ 1 (.int .i64 ((a:Int)+1))).set_ 2 (.int .u64 s2)
 have h3:Blk ((((w.drewN q).setCell ⟨p,1,none⟩ (.int .i64 ((a:Int)+1))).setCell ⟨p,2,none⟩ (.int .u64 s2)).drewN q2) p 141 #[.slice A n c,.int .i64 ((a+1:Nat):Int),.int .u64 s2]:=by
  have h4:Blk ((((w.drewN q).setCell ⟨p,1,none⟩ (.int .i64 ((a:Int)+1))).setCell ⟨p,2,none⟩ (.int .u64 s2))) p 141 #[.slice A n c,.int .i64 ((a+1:Nat):Int),.int .u64 s2]:=by simpa using h2
  exact h4
 exact⟨⟨A,n,c,a+1,s2,h3,hY.later (fun i hi=>hc.block i (by have:=hB.lt;omega) (by omega)),by omega,hn,hs⟩,hc⟩
theorem zJg (s:Nat) (h:s<18446744073709551616):∃x:Nat,wrap64 (bits BinOp.and IntKind.u64 ((s:Int) / 1099511627776) 255)=x∧x≤255:=by
 have e:(s:Int) / 1099511627776=((s / 1099511627776:Nat):Int):=by omega
 have h1:=u64_and_nat (s / 1099511627776) 255 (by omega) (by omega);have h2:s / 1099511627776 &&& 255≤255:=Nat.and_le_right;refine⟨s / 1099511627776 &&& 255,?_,h2⟩;rw[e];have h3:bits BinOp.and IntKind.u64 ((s / 1099511627776:Nat):Int) 255=((s / 1099511627776 &&& 255:Nat):Int):=h1;rw[h3];unfold wrap64;omega
theorem zHH (z:Int):∃s:Nat,IntKind.u64.wrap z=s∧s<18446744073709551616 :=
 ⟨(z % 18446744073709551616).toNat,by rw[IntKind.wrap_u64];omega,by omega⟩
theorem zFN (p K:Nat) (w:World) (h:SrcR w p K) (hK:K≤1099511627776) :
 Calls Tryz.prog 185 #[.pointer (some ⟨p,0,none⟩)] w fun e w'=>∃x:Nat,e=.returned (.int .i64 x)∧x≤255∧Drawn p (K+1) w w':=by
 obtain⟨A,n,c,a,s,hB,hY,ha,hn,hs⟩:=h;have HB:=zh hB;have HY:=zh hY;have c0:=hB.cell 0;have c1:=hB.cell 1;have c2:=hB.cell 2;have f1:=hB.frozen 1;have f2:=hB.frozen 2;have hz:=hB.lt;simp at c0 c1 c2;clear hB hY;go_enter Tryz.func185,Tryz.ntmps185;by_cases hlt:a<n
 · obtain⟨b,o,rfl,hb,hc⟩:=HY.out (by omega);obtain⟨x,hx,hx2⟩:=hc a hlt;clear hc;go_wp2_with fail
   go_quiet (fail)
   go_wp2_with fail
   go_quiet (fail)
   go_wp2_with fail;obtain⟨s2,hs2,hs3⟩:=zHH (IntKind.u64.wrap (IntKind.u64.wrap ((s:Int)*6364136223846793005)+x)+1442695040888963407);rw[hs2];clear hs2
   go_quiet (fail)
   go_wp2_with fail;go_ret;exact⟨x,rfl,hx2,zHK HB.out HY.out ha hn hs3 _ _⟩
 · go_wp2_with fail
   go_quiet (fail)
   go_wp2_with fail;obtain⟨s2,hs2,hs3⟩:=zHH (IntKind.u64.wrap (IntKind.u64.wrap ((s:Int)*6364136223846793005))+1442695040888963407);rw[hs2];clear hs2;have hnot:¬(a:Int)+1≤(n:Int):=by omega
   go_quiet (fail)
   go_wp2_with fail;obtain⟨x,hx,hx2⟩:=zJg s2 hs3;rw[hx];go_ret;exact⟨x,rfl,hx2,zHK HB.out HY.out ha hn hs3 _ _⟩
theorem Drawn.refl {p K:Nat} {w:World} (h:SrcR w p K):Drawn p K w w:=⟨h,Chg.refl _ _⟩
theorem Drawn.mono {p K K':Nat} {a b:World} (h:Drawn p K a b) (hK:K≤K'):Drawn p K' a b:=⟨h.src.mono hK,h.chg⟩
theorem zBF (z n:Int) (h:0<n):∃x:Nat,z % n=x∧(x:Int)<n :=
 ⟨(z % n).toNat,by have:=Int.emod_nonneg z (show n≠0 by omega);omega,by have:=Int.emod_lt_of_pos z h;have:=Int.emod_nonneg z (show n≠0 by omega);omega⟩
theorem yK (p K:Nat) (n:Int) (w:World) (h:SrcR w p K) (hK:K≤1099511627775) (hn:n≤4294967296) :
 Calls Tryz.prog 118 #[.pointer (some ⟨p,0,none⟩),.int .i64 n] w fun e w'=>∃x:Nat,e=.returned (.int .i64 x)∧((x:Int)<n∨x=0)∧Drawn p (K+2) w w':=by
 have HK1:=zh (zFN p K w h (by omega));have HK2:=zh (fun W (hW:SrcR W p (K+1))=>zFN p (K+1) W hW (by omega));have HD0:=zh ((Drawn.refl h).mono (show K≤K+2 by omega));clear h;go_enter Tryz.func118,Tryz.ntmps118;by_cases h1:n≤1
 · go_wp2_with fail;go_ret;exact⟨0,rfl,.inr rfl,HD0.out⟩
 · go_wp2_with fail;refine HK1.out.mono ?_;rintro e w1 ⟨x,rfl,hx,hd1⟩;have HD1:=zh (hd1.mono (show K+1≤K+2 by omega));have HN:=zh (HK2.out w1 hd1.src);have HD2:=zh hd1;clear hd1 HK1 HK2;have hn0:¬n=0:=by omega
   by_cases h2:200<n
   · go_wp2_with fail;refine HN.out.mono ?_;rintro e w2 ⟨y,rfl,hy,hd2⟩;have HD3:=zh (HD2.out.trans hd2);clear hd2;go_wp2_with fail;obtain⟨z,hz1,hz2⟩:=zBF ((x:Int)*256+y) n (by omega);rw[hz1];go_ret;exact⟨z,rfl,.inl hz2,HD3.out⟩
   · go_wp2_with fail;obtain⟨z,hz1,hz2⟩:=zBF (x:Int) n (by omega);rw[hz1];go_ret;exact⟨z,rfl,.inl hz2,HD1.out⟩
theorem zHN (p K:Nat) (n:Int) (w:World) (h:SrcR w p K) (hK:K≤1099511627775) (hn:n≤4294967296) :
 Calls Tryz.prog 73 #[.pointer (some ⟨p,0,none⟩),.int .i64 n] w fun e w'=>∃b:Bool,e=.returned (.bool b)∧Drawn p (K+2) w w':=by
 have HK1:=zh (yK p K n w h hK hn);clear h;go_enter Tryz.func73,Tryz.ntmps73;go_wp2_with fail;refine HK1.out.mono ?_;rintro e w1 ⟨x,rfl,_,hd1⟩;have HD1:=zh hd1;clear hd1;go_wp2_with fail;go_ret;exact⟨_,rfl,HD1.out⟩
theorem SrcR.ne {w:World} {p K b o:Nat} {v:Value} (h:SrcR w p K) (hv:w.cell? ⟨b,o,none⟩=some v) (h1:(∀A n c,v≠.slice A n c)∧(∀z,v≠.int .i64 z)∧(∀z,v≠.int .u64 z)):b≠p:=by
 rintro rfl;obtain⟨A,n,c,a,s,hB,_⟩:=h;have h2:=(hB.cell o).symm.trans hv;rcases o with _ | _ | _ | o
 · exact h1.1 _ _ _ (by simpa using h2.symm)
 · exact h1.2.1 _ (by simpa using h2.symm)
 · exact h1.2.2 _ (by simpa using h2.symm)
 · simp at h2
theorem SrcR.strs {w w':World} {p K K' n:Nat} {A:Option Addr} {ss:List ByteArray} (h:SrcR w p K) (hs:Strs w w.heap.size A n ss) (hd:Drawn p K' w w'):Strs w' w'.heap.size A n ss:=by
 refine⟨hs.1,fun hn=>?_⟩;obtain⟨b,o,e,hb,hc⟩:=hs.2 hn;have hne:b≠p:=h.ne (hc 0 hn) ⟨fun _ _ _=>by simp,fun _=>by simp,fun _=>by simp⟩;exact⟨b,o,e,Nat.lt_of_lt_of_le hb hd.chg.size,fun j hj=>(World.cell?_of_block (w:=w) (hd.chg.block b hb hne)).trans (hc j hj)⟩
theorem zAr (p K:Nat) (A:Option Addr) (n c:Nat) (ss:List ByteArray) (w:World) (h:SrcR w p K) (hK:K≤1099511627775) (hs:Strs w w.heap.size A n ss) (hn:0<n) (hn2:n≤1048576) :
 Calls Tryz.prog 119 #[.pointer (some ⟨p,0,none⟩),.slice A n c] w fun e w'=>∃s∈ss,e=.returned (.string s)∧Drawn p (K+2) w w':=by
 have HK1:=zh (yK p K n w h hK (by omega));have HS:=zh (fun w' (hd:Drawn p (K+2) w w')=>h.strs hs hd);have HL:Hid (ss.length=n):=hs.1;clear h hs;go_enter Tryz.func119,Tryz.ntmps119;go_wp2_with fail;refine HK1.out.mono ?_;rintro e w1 ⟨x,rfl,hx,hd1⟩;have hxn:x<n:=by omega
 obtain⟨b,o,rfl,hb,hc⟩:=(HS.out w1 hd1).2 hn;have hcx:=hc x hxn;have HM:Hid (ss.getD x ByteArray.empty∈ss):=mem_of_getD ss x _ (by rw[HL.out];exact hxn);have HD1:=zh hd1;clear hd1 hc hx HS;generalize ss.getD x ByteArray.empty=t at *;go_wp2_with fail;go_ret;exact⟨t,HM.out,rfl,HD1.out⟩
theorem zEA (p K:Nat) (b n c:Nat) (zs:List Int) (w:World) (h:SrcR w p K) (hK:K≤1099511627775) (hs:zJF w w.heap.size (some ⟨b,0,none⟩) n zs) (hbp:b≠p) (hn:0<n) (hn2:n≤1048576) :
 Calls Tryz.prog 155 #[.pointer (some ⟨p,0,none⟩),.slice (some ⟨b,0,none⟩) n c] w fun e w'=>∃z∈zs,e=.returned (.int .i64 z)∧Drawn p (K+2) w w':=by
 have HK1:=zh (yK p K n w h hK (by omega));have HS:Hid (∀w',Drawn p (K+2) w w'→zJF w' w'.heap.size (some ⟨b,0,none⟩) n zs):=fun w' hd=>by refine⟨hs.1,fun hn=>?_⟩;obtain⟨b',o,e,hb,hc⟩:=hs.2 hn;cases e;exact⟨b,0,rfl,Nat.lt_of_lt_of_le hb hd.chg.size,fun j hj=>(World.cell?_of_block (w:=w) (hd.chg.block b hb hbp)).trans (hc j hj)⟩
 have HL:Hid (zs.length=n):=hs.1;clear h hs;go_enter Tryz.func155,Tryz.ntmps155;go_wp2_with fail;refine HK1.out.mono ?_;rintro e w1 ⟨x,rfl,hx,hd1⟩;have hxn:x<n:=by omega
 obtain⟨b',o,e,hb,hc⟩:=(HS.out w1 hd1).2 hn;cases e;have hcx:=hc x hxn;have HM:Hid (zs.getD x 0∈zs):=mem_of_getD zs x _ (by rw[HL.out];exact hxn);have HD1:=zh hd1;clear hd1 hc hx HS;rw[Nat.zero_add]at hcx;generalize zs.getD x 0=t at *;go_wp2_with fail;go_ret;exact⟨t,HM.out,rfl,HD1.out⟩
theorem _root_.Go.Proofs.YtgmaamnofhmecaaGreatDoor.Own.Chg.fresh {P Q:Nat→Prop} {a b c:World} (h:Chg P a b) (k:Chg Q b c) (hQ:∀g,Q g→a.heap.size≤g):Chg P a c :=
 ⟨k.os.trans h.os,k.tape.trans h.tape,k.output.trans h.output,Nat.le_trans h.size k.size,fun i hi' hr=>(k.block i (Nat.lt_of_lt_of_le hi' h.size) (fun hq=>by have:=hQ i hq;omega)).trans (h.block i hi' hr)⟩
theorem SrcR.chg {P:Nat→Prop} {w w':World} {p K:Nat} (h:SrcR w p K) (k:Chg P w w') (hP:∀g,P g→p<g):SrcR w' p K:=by
 obtain⟨A,n,c,a,s,hB,hY,h1,h2,h3⟩:=h;exact⟨A,n,c,a,s,Own.Blk.chg hB k (fun hp=>Nat.lt_irrefl _ (hP _ hp)),hY.later (fun i hi=>k.block i (by have:=hB.lt;omega) (fun hp=>by have:=hP _ hp;omega)),h1,h2,h3⟩
theorem Drawn.pre {p K:Nat} {a b c:World} (hb:Below a.heap.size a b) (h:Drawn p K b c):Drawn p K a c:=⟨h.src,(Chg.of_below hb).trans h.chg⟩
theorem Drawn.grown {p K:Nat} {a b c:World} {row:Option Nat} (h:Drawn p K a b) (hg:b.grownBy c row) (hr:∀g,row=some g→a.heap.size≤g) (hp:p<a.heap.size):Drawn p K a c :=
 ⟨h.src.chg (Chg.of_grown (P:=fun g=>a.heap.size≤g) hg hr) (fun g hg'=>Nat.lt_of_lt_of_le hp hg'),h.chg.fresh (Chg.of_grown (P:=fun g=>a.heap.size≤g) hg hr) (fun g hg'=>hg')⟩
theorem Drawn.lt {p K:Nat} {a b:World} (h:Drawn p K a b):p<b.heap.size:=h.src.lt
theorem SubO.drawn {w w':World} {p K K' base:Nat} {v:Value} {ss:List ByteArray} (h:SubO w base v ss) (hs:SrcR w p K) (hd:Drawn p K' w w'):SubO w' base v ss :=
 own_chg h hd.chg (hs.not_own h (by decide))
theorem Blk.drawn {w w':World} {p K g t:Nat} {cs:Array Value} (h:Blk w g t cs) (hd:Drawn p K w w') (hp:g≠p):Blk w' g t cs:=Own.Blk.chg h hd.chg hp
theorem zAs (w:World) (t:TypeId) (ss:List ByteArray) (cs:Array Value) (h:cs=wR ss):Strs (w.alloc (.cells cs t)) (w.alloc (.cells cs t)).heap.size (some ⟨w.heap.size,0,none⟩) ss.length ss:=by
 subst h;exact(Strs.made w t ss).more (by simp)
theorem zJj (w:World) (t:TypeId) (zs:List Int) (cs:Array Value) (h:cs=(zs.map (Value.int .i64)).toArray):zJF (w.alloc (.cells cs t)) (w.alloc (.cells cs t)).heap.size (some ⟨w.heap.size,0,none⟩) zs.length zs:=by
 subst h;refine⟨rfl,fun hn=>⟨w.heap.size,0,rfl,by simp,fun j hj=>?_⟩⟩;refine(Blk.cell (t:=t) (heap_alloc_new w _) _).trans ?_;simp[List.getD_eq_getElem?_getD,List.getElem?_eq_getElem hj]
theorem SrcR.reads_nodes {w w':World} {p K K' n:Nat} {A:Option Addr} {fs:List NodeD} (h:SrcR w p K) (hs:Nodes w w.heap.size A n fs) (hd:Drawn p K' w w'):Nodes w' w'.heap.size A n fs:=by
 refine⟨hs.1,fun hn=>?_⟩;obtain⟨b,o,e,hb,hc⟩:=hs.2 hn;have hne:b≠p:=by obtain⟨c0,c1,c2,h0,_,_,hr⟩:=hc 0 hn;refine h.ne h0 ?_;rw[hr.1];exact⟨fun _ _ _=>by simp,fun _=>by simp,fun _=>by simp⟩
 refine⟨b,o,e,Nat.lt_of_lt_of_le hb hd.chg.size,fun j hj=>?_⟩;obtain⟨c0,c1,c2,h0,h1,h2,e0,⟨A1,n1,p1,e1,s1,k1⟩,e2⟩:=hc j hj;have hk:∀i,w'.cell? ⟨b,i,none⟩=w.cell? ⟨b,i,none⟩:=fun i=>World.cell?_of_block (w:=w) (hd.chg.block b hb hne);exact⟨c0,c1,c2,(hk _).trans h0,(hk _).trans h1,(hk _).trans h2,e0,⟨A1,n1,p1,e1,h.strs s1 hd,k1⟩,e2⟩
end Go.Proofs.YtgmaamnofhmecaaGreatDoor
