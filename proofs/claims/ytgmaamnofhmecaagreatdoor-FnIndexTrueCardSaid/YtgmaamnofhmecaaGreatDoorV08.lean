import Derived.Test.YtgmaamnofhmecaaGreatDoorV07
import Derived.Test.YtgmaamnofhmecaaGreatDoorV06
import Derived.Test.YtgmaamnofhmecaaGreatDoorV00
import Derived.Deep.RegionWith
import Derived.Deep.RegionHeld3
set_option maxHeartbeats 1000000
open Go.Lib renaming hid → zh
namespace Go.Proofs.YtgmaamnofhmecaaGreatDoor
open Go.RowKit
def zFe (a b:Int):Int:=if a<b then -1 else if b<a then 1 else 0
def zBy (a b:ByteArray):Int:=if Op.bytesLess a.toList b.toList=true then -1 else if a=b then 0 else 1
def zBR (a b:ByteArray):Int :=
 if (zC0 a&&zC0 b)=true then zFe (yN a.data.toList) (yN b.data.toList) else if zC0 a=true then -1 else if zC0 b=true then 1 else zBy a b
def uX:List ByteArray→List ByteArray→Int
 | [],[]=>0
 | [],_::_=>-1
 | _::_,[]=>1
 | x::r,y::s=>if zBR x y=0 then uX r s else zBR x y
def orI (a b:Int):Int:=if a=0 then b else a
def zAq (n:ByteArray) (s:List ByteArray) (n':ByteArray) (s':List ByteArray):Int:=orI (zBy n n') (uX s s')
theorem zEt (x:Int) (w:World):Calls Tryz.prog 289 #[.int .i64 x] w fun e w'=>e=.returned (.bool false)∧w=w':=by
 have hb:(x != x)=false:=by simp
 go_enter Tryz.func289,Tryz.ntmps289;go_wp2_with fail;go_ret;exact⟨rfl,rfl⟩
theorem zEs (x:ByteArray) (w:World):Calls Tryz.prog 236 #[.string x] w fun e w'=>e=.returned (.bool false)∧w=w':=by
 go_enter Tryz.func236,Tryz.ntmps236;go_wp2_with fail;go_ret;exact⟨rfl,rfl⟩
theorem zKL (a b:Int) (w:World):Calls Tryz.prog 268 #[.int .i64 a,.int .i64 b] w fun e w'=>e=.returned (.int .i64 (zFe a b))∧w=w':=by
 have H1:=zh (zEt a);have H2:=zh (zEt b);have HR:Hid (zFe a b=if a<b then -1 else if b<a then 1 else 0):=rfl;generalize zFe a b=R at *;by_cases h1:a<b
 · have HE:Hid (R=-1):=by unfold Hid;rw[HR.out,if_pos h1]
   go_enter Tryz.func268,Tryz.ntmps268;go_wp2_with fail;refine(H1.out _).mono ?_;rintro e w1 ⟨rfl,rfl⟩;go_wp2_with fail;refine(H2.out _).mono ?_;rintro e w1 ⟨rfl,rfl⟩;go_wp2_with fail;go_ret;exact⟨yB HE.out.symm,rfl⟩
 · by_cases h2:b<a
   · have HE:Hid (R=1):=by unfold Hid;rw[HR.out,if_neg h1,if_pos h2]
     go_enter Tryz.func268,Tryz.ntmps268;go_wp2_with fail;refine(H1.out _).mono ?_;rintro e w1 ⟨rfl,rfl⟩;go_wp2_with fail;refine(H2.out _).mono ?_;rintro e w1 ⟨rfl,rfl⟩;go_wp2_with fail;go_ret;exact⟨yB HE.out.symm,rfl⟩
   · have HE:Hid (R=0):=by unfold Hid;rw[HR.out,if_neg h1,if_neg h2]
     go_enter Tryz.func268,Tryz.ntmps268;go_wp2_with fail;refine(H1.out _).mono ?_;rintro e w1 ⟨rfl,rfl⟩;go_wp2_with fail;refine(H2.out _).mono ?_;rintro e w1 ⟨rfl,rfl⟩;go_wp2_with fail;go_ret;exact⟨yB HE.out.symm,rfl⟩
theorem zHp (a b:ByteArray) (w:World):Calls Tryz.prog 191 #[.string a,.string b] w fun e w'=>e=.returned (.int .i64 (zBy a b))∧w=w':=by
 have H1:=zh (zEs a);have H2:=zh (zEs b);have HR:Hid (zBy a b=if Op.bytesLess a.toList b.toList=true then -1 else if a=b then 0 else 1):=rfl;generalize zBy a b=R at *;cases h1:Op.bytesLess a.toList b.toList
 · by_cases h2:a=b
   · have HE:Hid (R=0):=by unfold Hid;rw[HR.out,h1,if_pos h2];rfl
     subst h2;go_enter Tryz.func191,Tryz.ntmps191;go_wp2_with fail;refine(H1.out _).mono ?_;rintro e w1 ⟨rfl,rfl⟩;go_wp2_with fail;refine(H2.out _).mono ?_;rintro e w1 ⟨rfl,rfl⟩;go_wp2_with fail;go_ret;exact⟨yB HE.out.symm,rfl⟩
   · have HE:Hid (R=1):=by unfold Hid;rw[HR.out,h1,if_neg h2];rfl
     have hb:=wY h2;have hb':=vE h2;clear h2;go_enter Tryz.func191,Tryz.ntmps191;go_wp2_with fail;refine(H1.out _).mono ?_;rintro e w1 ⟨rfl,rfl⟩;go_wp2_with fail;refine(H2.out _).mono ?_;rintro e w1 ⟨rfl,rfl⟩;go_wp2_with fail;go_ret;exact⟨yB HE.out.symm,rfl⟩
 · have HE:Hid (R=-1):=by unfold Hid;rw[HR.out,h1];rfl
   go_enter Tryz.func191,Tryz.ntmps191;go_wp2_with fail;refine(H1.out _).mono ?_;rintro e w1 ⟨rfl,rfl⟩;go_wp2_with fail;refine(H2.out _).mono ?_;rintro e w1 ⟨rfl,rfl⟩;go_wp2_with fail;go_ret;exact⟨yB HE.out.symm,rfl⟩
theorem zHn (a b:ByteArray) (w:World) (htab:vV w) (ha:a.size≤1048576) (hb:b.size≤1048576) :
 Calls Tryz.prog 238 #[.string a,.string b] w fun e w'=>e=.returned (.int .i64 (zBR a b))∧Below w.heap.size w w':=by
 have HK1:=zh (fun W hW=>zBC a W hW ha);have HK2:=zh (fun W hW=>zBC b W hW hb);have HK3:=zh (fun W=>zBO a W ha);have HK4:=zh (fun W=>zBO b W hb);rw[zFV]at HK3 HK4;have HT:=zh htab;have HR:Hid (zBR a b=if (zC0 a&&zC0 b)=true then zFe (yN a.data.toList) (yN b.data.toList) else if zC0 a=true then -1 else if zC0 b=true then 1 else zBy a b):=rfl;clear htab;generalize zBR a b=R at *;generalize zC0 a=x at *;generalize zC0 b=y at *;generalize yN a.data.toList=p at *;generalize yN b.data.toList=q at *;go_enter Tryz.func238,Tryz.ntmps238;go_wp2_with fail;refine(HK1.out _ HT.out).mono ?_;rintro e w1 ⟨rfl,hb1⟩;have HT1:=zh (zH0 HT.out hb1);have HB1:=zh hb1;clear hb1;go_wp2_with fail;refine(HK2.out _ HT1.out).mono ?_;rintro e w2 ⟨rfl,hb2⟩;have HB2:=zh (HB1.out.later hb2);clear hb2;cases x
 · cases y
   · have HE:Hid (R=zBy a b):=HR.out;go_wp2_with fail;refine(zHp _ _ _).mono ?_;rintro e w3 ⟨rfl,rfl⟩;go_wp2_with fail;go_ret;exact⟨yB HE.out.symm,HB2.out⟩
   · have HE:Hid (R=1):=HR.out;go_wp2_with fail;go_ret;exact⟨yB HE.out.symm,HB2.out⟩
 · cases y
   · have HE:Hid (R=-1):=HR.out;go_wp2_with fail;go_ret;exact⟨yB HE.out.symm,HB2.out⟩
   · have HE:Hid (R=zFe p q):=HR.out;go_wp2_with fail;refine(HK3.out _).mono ?_;rintro e w3 ⟨rfl,hb3⟩;have HB3:=zh (HB2.out.later hb3);clear hb3;go_wp2_with fail;refine(HK4.out _).mono ?_;rintro e w4 ⟨rfl,hb4⟩;have HB4:=zh (HB3.out.later hb4);clear hb4;go_wp2_with fail;refine(zKL _ _ _).mono ?_;rintro e w5 ⟨rfl,rfl⟩;go_wp2_with fail;go_ret;exact⟨yB HE.out.symm,HB4.out⟩
theorem zJM (a b:List ByteArray) (k:Nat) (h:k<a.length) (h':k<b.length) :
 uX (a.drop k) (b.drop k)=if zBR (a.getD k ByteArray.empty) (b.getD k ByteArray.empty)=0 then uX (a.drop (k+1)) (b.drop (k+1)) else zBR (a.getD k ByteArray.empty) (b.getD k ByteArray.empty):=by
 rw[List.drop_eq_getElem_cons h,List.drop_eq_getElem_cons h'];simp[uX,List.getD_eq_getElem?_getD,List.getElem?_eq_getElem h,List.getElem?_eq_getElem h']
theorem zKK:∀(a b:List ByteArray),a=[]→uX a b=if a.length<b.length then -1 else 0
 | [],[],_=>rfl
 | [],_::_,_=>by simp[uX]
 | _::_,_,h=>by simp at h
theorem zJN:∀(a b:List ByteArray),a≠[]→b=[]→uX a b=1
 | [],_,h,_=>absurd rfl h
 | _::_,[],_,_=>rfl
 | _::_,_::_,_,h=>by simp at h
theorem zDo (A A':Option Addr) (n c n' c':Nat) (ss ts:List ByteArray) (w:World) (htab:vV w) (h:Strs w w.heap.size A n ss) (h':Strs w w.heap.size A' n' ts) (hn:n≤1048576) (hn':n'≤1048576)
 (hz:∀s∈ss,s.size≤1048576) (hz':∀s∈ts,s.size≤1048576) :
 Calls Tryz.prog 237 #[.slice A n c,.slice A' n' c',.func (.func 238) #[] #[]] w fun e w'=>e=.returned (.int .i64 (uX ss ts))∧Below w.heap.size w w':=by
 have eg:∀args w,(callFunc 238 args).run Tryz.prog w=.ok (.enter 238 args) w:=enters_of Tryz.func238 (by kernel_rfl) rfl;have Hh:=zh h;have Hh':=zh h';have Hlen:=zh h.1;have Hlen':=zh h'.1;have Hz:=zh hz;have Hz':=zh hz';have HT:=zh htab;clear h h' hz hz' htab;go_enter Tryz.func237,Tryz.ntmps237;go_wp2_with fail;go_loopw [13] (fun i wr=>∃(k:Nat),k≤n∧k≤n'∧i=.int .i64 k∧Below w.heap.size w wr∧Hid (uX ss ts=uX (ss.drop k) (ts.drop k))) (fun i _=>n-(intOf i).toNat);case atStart=>exact⟨0,Nat.zero_le _,Nat.zero_le _,rfl,Below.refl _ _,rfl⟩
 case round =>
  obtain⟨k,hk,hk',rfl,hb,hS⟩:=hrel;have HB:=zh hb;clear hb;by_cases hlt:k<n
  · by_cases hlt':k<n'
    · obtain⟨b,o,rfl,hbB,hcell⟩:=(Hh.out.later HB.out).2 (by omega);obtain⟨b',o',rfl,hbB',hcell'⟩:=(Hh'.out.later HB.out).2 (by omega);have hck:=hcell k hlt;have hck':=hcell' k hlt';clear hcell hcell';have HS:=zh (zJM ss ts k (by rw[Hlen.out];exact hlt) (by rw[Hlen'.out];exact hlt'));have HK:=zh (zHn (ss.getD k ByteArray.empty) (ts.getD k ByteArray.empty) wr (zH0 HT.out HB.out) (zCn Hz.out k (by rw[Hlen.out];exact hlt)) (zCn Hz'.out k (by rw[Hlen'.out];exact hlt')));generalize ss.getD k ByteArray.empty=s at *;generalize ts.getD k ByteArray.empty=t at *;generalize zBR s t=x at *;go_wp2_with fail;refine HK.out.mono ?_;rintro e w1 ⟨rfl,hb1⟩;have HB1:=zh (HB.out.later hb1);clear hb1;by_cases hx:x=0
      · subst hx;go_wp2_with fail;go_roundw;case rel=>exact⟨k+1,by omega,by omega,by go_num,HB1.out,by unfold Hid;rw[hS.out,HS.out];simp⟩
        case measure=>simp[intOf];omega
      · have hbx:(x != 0)=true:=by rw[bne_iff_ne];exact hx
        have HE:Hid (uX ss ts=x):=by unfold Hid;rw[hS.out,HS.out,if_neg hx]
        clear hx;go_wp2_with fail;go_ret;exact⟨yB HE.out.symm,HB1.out⟩
    · have HE:Hid (uX ss ts=1):=by unfold Hid;rw[hS.out,zJN _ _ (fun he=>by have:=congrArg List.length he;rw[List.length_drop,Hlen.out]at this;simp at this;omega) (List.drop_of_length_le (by rw[Hlen'.out];omega))]
      obtain⟨b,o,rfl,hbB,hcell⟩:=(Hh.out.later HB.out).2 (by omega);have hck:=hcell k hlt;clear hcell;go_wp2_with fail;go_ret;exact⟨yB HE.out.symm,HB.out⟩
  · have HE:Hid (uX ss ts=if n<n' then -1 else 0):=by
     unfold Hid;obtain rfl:k=n:=by omega
     rw[hS.out,zKK _ _ (List.drop_of_length_le (by rw[Hlen.out];omega)),List.length_drop,List.length_drop,Hlen.out,Hlen'.out];by_cases hc:k<n'
     · rw[if_pos (by omega),if_pos hc]
     · rw[if_neg (by omega),if_neg hc]
    by_cases hc:n<n'
    all_goals
     go_wp2_with fail;go_ret;exact⟨yB (by rw[HE.out];first | rw[if_pos hc] | rw[if_neg hc]),HB.out⟩
theorem zDm (A A':Option Addr) (n c n' c':Nat) (ss ts:List ByteArray) (w:World) (htab:vV w) (h:Strs w w.heap.size A n ss) (h':Strs w w.heap.size A' n' ts) (hn:n≤1048576) (hn':n'≤1048576)
 (hz:∀s∈ss,s.size≤1048576) (hz':∀s∈ts,s.size≤1048576) :
 Calls Tryz.prog 192 #[.slice A n c,.slice A' n' c'] w fun e w'=>e=.returned (.int .i64 (uX ss ts))∧Below w.heap.size w w':=by
 have HK:=zh (zDo A A' n c n' c' ss ts w htab h h' hn hn' hz hz');clear htab h h' hz hz';generalize uX ss ts=x at *;go_enter Tryz.func192,Tryz.ntmps192;go_wp2_with fail;refine HK.out.mono ?_;rintro e w1 ⟨rfl,hb1⟩;have HB1:=zh hb1;clear hb1;go_wp2_with fail;go_ret;exact⟨rfl,HB1.out⟩
theorem zLx (g:Nat) (x y:Int) (w:World) (c0:w.cell? ⟨g,0,none⟩=some (.int .i64 x)) (c1:w.cell? ⟨g,1,none⟩=some (.int .i64 y)) :
 Calls Tryz.prog 190 #[.slice (some ⟨g,0,none⟩) 2 2] w fun e w'=>e=.returned (.int .i64 (orI x y))∧w=w':=by
 have HR:Hid (orI x y=if x=0 then y else x):=rfl;generalize orI x y=R at *;go_enter Tryz.func190,Tryz.ntmps190;go_wp2_with fail;refine wp_loop_rounds 3 ?_;rw[rounds_succ];by_cases hx:x=0
 · subst hx;go_wp2_with fail;rw[rounds_succ];by_cases hy:y=0
   · subst hy;go_wp2_with fail;rw[rounds_succ];go_wp2_with fail;go_ret;exact⟨yB (by rw[HR.out];rfl),rfl⟩
   · have hb:(y != 0)=true:=by rw[bne_iff_ne];exact hy
     clear hy;go_wp2_with fail;go_ret;exact⟨yB (by rw[HR.out];rfl),rfl⟩
 · have hb:(x != 0)=true:=by rw[bne_iff_ne];exact hx
   have HE:Hid (R=x):=by unfold Hid;rw[HR.out,if_neg hx]
   clear hx;go_wp2_with fail;go_ret;exact⟨yB HE.out.symm,rfl⟩
end Go.Proofs.YtgmaamnofhmecaaGreatDoor
namespace Go.Proofs.YtgmaamnofhmecaaGreatDoor
open Go.RowKit
def wQ {α:Type} (p:α→Bool):List α→Nat→Int
 | [],_=>-1
 | d::r,k=>if p d=true then k else wQ p r (k+1)
theorem zDb {α:Type} [Inhabited α] (p:α→Bool) (l:List α) (k:Nat) (h:k<l.length):wQ p (l.drop k) k=if p (l.getD k default)=true then (k:Int) else wQ p (l.drop (k+1)) (k+1):=by
 rw[List.drop_eq_getElem_cons h];simp[wQ,List.getD_eq_getElem?_getD,List.getElem?_eq_getElem h]
theorem zJd {α:Type} (p:α→Bool):∀(l:List α) (k:Nat),-1≤wQ p l k∧wQ p l k<k+l.length
 | [],k=>by simp[wQ];omega
 | d::r,k=>by have:=zJd p r (k+1);unfold wQ;simp only[List.length_cons];split <;> omega
end Go.Proofs.YtgmaamnofhmecaaGreatDoor
namespace Go.Proofs.YtgmaamnofhmecaaGreatDoor
open Go.RowKit
theorem zLr (w:World) (x y:Value) (t:TypeId):(w.alloc (.cells #[x,y] t)).cell? ⟨w.heap.size,0,none⟩=some x:=cell_of_row _ w.heap.size 0 #[x,y] t (0,0) (heap_alloc_new w _)
theorem zLq (w:World) (x y:Value) (t:TypeId):(w.alloc (.cells #[x,y] t)).cell? ⟨w.heap.size,1,none⟩=some y:=cell_of_row _ w.heap.size 1 #[x,y] t (0,0) (heap_alloc_new w _)
theorem zBx (nm nm':ByteArray) (A A':Option Addr) (n c n' c':Nat) (ss ts:List ByteArray) (w:World) (htab:vV w) (h:Strs w w.heap.size A n ss) (h':Strs w w.heap.size A' n' ts) (hn:n≤1048576) (hn':n'≤1048576)
 (hz:∀s∈ss,s.size≤1048576) (hz':∀s∈ts,s.size≤1048576) :
 Calls Tryz.prog 125 #[.string nm,.slice A n c,.string nm',.slice A' n' c'] w fun e w'=>e=.returned (.int .i64 (zAq nm ss nm' ts))∧Below w.heap.size w w':=by
 have HK1:=zh (zHp nm nm' w);have HK2:=zh (zDm A A' n c n' c' ss ts w htab h h' hn hn' hz hz');have HR:Hid (zAq nm ss nm' ts=orI (zBy nm nm') (uX ss ts)):=rfl;clear htab h h' hz hz';generalize zAq nm ss nm' ts=R at *;generalize zBy nm nm'=x at *;generalize uX ss ts=y at *;go_enter Tryz.func125,Tryz.ntmps125;go_wp2_with fail;refine HK1.out.mono ?_;rintro e w1 ⟨rfl,rfl⟩;go_wp2_with fail;refine HK2.out.mono ?_;rintro e w1 ⟨rfl,hb1⟩;have HB1:=zh hb1;clear hb1;go_wp2_with fail;refine(zLx _ x y _ (zLr _ _ _ _) (zLq _ _ _ _)).mono ?_;rintro e w2 ⟨rfl,rfl⟩;go_wp2_with fail;go_ret;exact⟨yB HR.out.symm,HB1.out.later (Below.new _ _)⟩
theorem Strs.take {w:World} {B n:Nat} {A:Option Addr} {ss:List ByteArray} (h:Strs w B A n ss) (m:Nat) (hm:m≤n):Strs w B A m (ss.take m) :=
 ⟨by rw[List.length_take,h.1];omega,fun hp=>by
   obtain⟨b,o,e,hb,hc⟩:=h.2 (by omega);refine⟨b,o,e,hb,fun j hj=>?_⟩;rw[hc j (by omega)]
   simp[List.getD_eq_getElem?_getD,hj]⟩
theorem zCo:∀(a b:List ByteArray),(decide (a.length≤b.length)&&eqS (b.take a.length) a)=zG0 a b
 | [],b=>by simp[zG0,eqS]
 | x::r,[]=>by simp[zG0]
 | x::r,y::s=>by
   have:=zCo r s;simp only[zG0,List.length_cons,List.take_succ_cons];rw[←this];unfold eqS;by_cases hx:x=y
   · subst hx;simp
   · have hyx:¬y=x:=fun h=>hx h.symm;simp[hx,hyx]
end Go.Proofs.YtgmaamnofhmecaaGreatDoor
namespace Go.Proofs.YtgmaamnofhmecaaGreatDoor
open Go.RowKit
theorem zCw (A A':Option Addr) (n c n' c':Nat) (ss ts:List ByteArray) (w:World) (h:Strs w w.heap.size A n ss) (h':Strs w w.heap.size A' n' ts) (hn:n≤1048576) (hn':n'≤1048576)
 (hz:∀s∈ss,s.size≤1048576) (hz':∀s∈ts,s.size≤1048576) :
 Calls Tryz.prog 230 #[.slice A n c,.slice A' n' c'] w fun e w'=>e=.returned (.bool (zJ0 ss ts))∧Below w.heap.size w w':=by
 obtain⟨hlen,hc⟩:=h;obtain⟨hlen',hc'⟩:=h';have Hc:=zh hc;have Hlen:=zh hlen;have Hc':=zh hc';have Hlen':=zh hlen';have Hz:=zh hz;have Hz':=zh hz';clear hc hlen hc' hlen' hz hz';go_enter Tryz.func230,Tryz.ntmps230;go_wp2_with fail;go_loopw [5] (fun i wr=>∃(k:Nat),k≤n∧k≤n'∧i=.int .i64 k∧(∃q,wr=w.drewN q)∧Hid (zJ0 ss ts=zJ0 (ss.drop k) (ts.drop k))) (fun i _=>n-(intOf i).toNat);case atStart=>exact⟨0,Nat.zero_le _,Nat.zero_le _,rfl,⟨0,rfl⟩,rfl⟩
 case round =>
  obtain⟨k,hk,hk',rfl,⟨q,rfl⟩,hS⟩:=hrel;by_cases hlt:k<n
  · by_cases hlt':k<n'
    · obtain⟨b,o,rfl,hb,hcell⟩:=Hc.out (by omega);obtain⟨b',o',rfl,hb',hcell'⟩:=Hc'.out (by omega);have hck:=hcell k hlt;have hck':=hcell' k hlt';clear hcell hcell';have HS:=zh (zIe ss ts k (by rw[Hlen.out];exact hlt) (by rw[Hlen'.out];omega));have HK:=zh (fun W=>zFa (ss.getD k ByteArray.empty) (ts.getD k ByteArray.empty) W (zCn Hz.out k (by rw[Hlen.out];exact hlt)) (zCn Hz'.out k (by rw[Hlen'.out];exact hlt')));generalize ss.getD k ByteArray.empty=s at *;generalize ts.getD k ByteArray.empty=t at *;generalize zK0 s t=x at *;go_wp2_with fail
      go_quiet (fail)
      go_wp2_with fail
      · have hst:s≠t:=zKp (by assumption);have HF:Hid (zJ0 ss ts=x):=by unfold Hid;rw[hS.out,HS.out,if_neg hst]
        clear hst
        go_region_held3 (fun w'=>w'.cell? ⟨b,o+k,none⟩=some (.string s)∧w'.cell? ⟨b',o'+k,none⟩=some (.string t)) (first | exact⟨hck,hck'⟩ | exact⟨cell_later hb1 hck,cell_later hb1 hck'⟩)
         (first | (go_at_call 264;refine(HK.out _).mono ?_;rintro e w1 ⟨rfl,hb1'⟩;have hb1:=zFM hb1';clear hb1'))
        have HB1:=zh hb1;clear hb1;go_wp2_with fail;go_ret;exact⟨zA0 HF.out.symm,HB1.out⟩
      · go_roundw;case rel=>have hst:s=t:=zKq (by assumption);exact⟨k+1,by omega,by omega,by go_num,⟨_,rfl⟩,by unfold Hid;rw[hS.out,HS.out,if_pos hst]⟩
        case measure=>simp[intOf];omega
    · have HF:Hid (zJ0 ss ts=decide (n<n')):=by unfold Hid;rw[hS.out,zFu _ _ (Or.inr (List.drop_of_length_le (by rw[Hlen'.out];omega))),List.length_drop,List.length_drop,Hlen.out,Hlen'.out];rw[Bool.eq_iff_iff];simp <;> omega
      go_wp2_with fail;go_ret;exact⟨zA0 HF.out.symm,yE (Below.refl _ _) _⟩
  · have HF:Hid (zJ0 ss ts=decide (n<n')):=by unfold Hid;rw[hS.out,zFu _ _ (Or.inl (List.drop_of_length_le (by rw[Hlen.out];omega))),List.length_drop,List.length_drop,Hlen.out,Hlen'.out];rw[Bool.eq_iff_iff];simp <;> omega
    go_wp2_with fail;go_ret;exact⟨zA0 HF.out.symm,yE (Below.refl _ _) _⟩
theorem zCc (A A':Option Addr) (n c n' c':Nat) (ss ts:List ByteArray) (w:World) (h:Strs w w.heap.size A n ss) (h':Strs w w.heap.size A' n' ts) (hn:n≤1048576) (hn':n'≤1048576)
 (hz:∀s∈ss,s.size≤1048576) (hz':∀s∈ts,s.size≤1048576) :
 Calls Tryz.prog 179 #[.slice A n c,.slice A' n' c'] w fun e w'=>e=.returned (.bool (zJ0 ss ts))∧Below w.heap.size w w':=by
 have HK:=zh (zCw A A' n c n' c' ss ts w h h' hn hn' hz hz');clear h h' hz hz';generalize zJ0 ss ts=x at *;go_enter Tryz.func179,Tryz.ntmps179;go_wp2_with fail;refine HK.out.mono ?_;rintro e w1 ⟨rfl,hb1⟩;have HB:=zh hb1;clear hb1;go_wp2_with fail;go_ret;exact⟨rfl,HB.out⟩
theorem wT (nm:ByteArray) (A:Option Addr) (n c:Nat) (ss:List ByteArray) (w:World) (hs:nm.size≤1048576) (h:Strs w w.heap.size A n ss) (hn:n≤1048576) (hz:∀s∈ss,s.size≤1048576) :
 Calls Tryz.prog 111 #[.string nm,.slice A n c] w fun e w'=>e=.returned (.bool (wC nm ss))∧w=w':=by
 have HK1:=zh (yT nm w hs);have HK2:=zh (zEc A n c ss w h hn hz);have hR:wC nm ss=wC nm ss:=rfl
 conv at hR=>rhs;unfold wC
 generalize wC nm ss=R at *;clear h hz;generalize xC nm=x at *;generalize yK ss=y at *;have HR:=zh hR;clear hR;go_enter Tryz.func111,Tryz.ntmps111;go_wp2_with fail;refine HK1.out.mono ?_;rintro e w1 ⟨rfl,rfl⟩;cases x
 · go_wp2_with fail;go_ret;exact⟨zA0 (by rw[HR.out];rfl),rfl⟩
 · go_wp2_with fail;refine HK2.out.mono ?_;rintro e w1 ⟨rfl,rfl⟩;go_wp2_with fail;go_ret;exact⟨zA0 (by rw[HR.out];rfl),rfl⟩
def zAi (n:ByteArray) (s:List ByteArray) (n':ByteArray) (s':List ByteArray):Bool:=Op.bytesLess n.toList n'.toList||(decide (n=n')&&zJ0 s s')
theorem zDz (nm nm':ByteArray) (A A':Option Addr) (n c n' c':Nat) (ss ts:List ByteArray) (w:World) (h:Strs w w.heap.size A n ss) (h':Strs w w.heap.size A' n' ts) (hn:n≤1048576) (hn':n'≤1048576)
 (hz:∀s∈ss,s.size≤1048576) (hz':∀s∈ts,s.size≤1048576) :
 Calls Tryz.prog 110 #[.string nm,.slice A n c,.string nm',.slice A' n' c'] w fun e w'=>e=.returned (.bool (zAi nm ss nm' ts))∧Below w.heap.size w w':=by
 have HK:=zh (zCc A A' n c n' c' ss ts w h h' hn hn' hz hz');have hR:zAi nm ss nm' ts=(Op.bytesLess nm.toList nm'.toList||(decide (nm=nm')&&zJ0 ss ts)):=rfl;generalize zAi nm ss nm' ts=R at *;clear h h' hz hz';generalize zJ0 ss ts=x at *;cases hl:Op.bytesLess nm.toList nm'.toList
 · by_cases he:nm=nm'
   · have HE:Hid (R=x):=by unfold Hid;rw[hR,hl];simp[he]
     subst he;clear hR;go_enter Tryz.func110,Tryz.ntmps110;go_wp2_with fail;refine HK.out.mono ?_;rintro e w1 ⟨rfl,hb1⟩;have HB:=zh hb1;clear hb1;go_wp2_with fail;go_ret;exact⟨zA0 HE.out.symm,HB.out⟩
   · have HE:Hid (R=false):=by unfold Hid;rw[hR,hl];simp[he]
     have hb:=vE he;clear hR he;go_enter Tryz.func110,Tryz.ntmps110;go_wp2_with fail;go_ret;exact⟨zA0 HE.out.symm,Below.refl _ _⟩
 · have HE:Hid (R=true):=by unfold Hid;rw[hR,hl];rfl
   clear hR;go_enter Tryz.func110,Tryz.ntmps110;go_wp2_with fail;go_ret;exact⟨zA0 HE.out.symm,Below.refl _ _⟩
def yY (d:NodeD):Bool:=wC d.name d.subs&&decide (d.val.size≤64)
theorem zGR (c0 c1 c2:Value) (d:NodeD) (w:World) (h:NodeR w w.heap.size c0 c1 c2 d) (hs:d.small) :
 Calls Tryz.prog 109 #[.agg #[c0,c1,c2]] w fun e w'=>e=.returned (.bool (yY d))∧Below w.heap.size w w':=by
 obtain⟨rfl,⟨A,n,cap,rfl,hS,_⟩,rfl⟩:=h;obtain⟨f1,⟨f2,f3⟩,f4⟩:=hs;have HK:=zh (fun o=>wT d.name A n cap d.subs (w.alloc o) f1 (hS.later (Below.new _ _)) (by rw[←hS.1];exact f2) f3);have hR:yY d=(wC d.name d.subs&&decide (d.val.size≤64)):=rfl;generalize yY d=R at *;generalize wC d.name d.subs=x at *;clear hS f2 f3 f1;generalize d.val=v at *;generalize d.name=nm at *;cases x
 · have HE:Hid (R=false):=by unfold Hid;rw[hR];rfl
   clear hR;go_enter Tryz.func109,Tryz.ntmps109;go_wp2_with fail;refine(HK.out _).mono ?_;rintro e w1 ⟨rfl,rfl⟩;go_wp2_with fail;go_ret;exact⟨zA0 HE.out.symm,Below.new _ _⟩
 · have HE:Hid (R=decide (v.size≤64)):=by unfold Hid;rw[hR];rfl
   clear hR;go_enter Tryz.func109,Tryz.ntmps109;go_wp2_with fail;refine(HK.out _).mono ?_;rintro e w1 ⟨rfl,rfl⟩;by_cases hv:v.size≤64
   · have HE2:Hid (R=true):=by unfold Hid;rw[HE.out];simp[hv]
     go_wp2_with fail;go_ret;exact⟨zA0 (by rw[HE.out];first | (simp;done) | (simp;omega) | (rw[Bool.eq_iff_iff];simp)),Below.new _ _⟩
   · have HE2:Hid (R=false):=by unfold Hid;rw[HE.out];simp[hv]
     go_wp2_with fail;go_ret;exact⟨zA0 (by rw[HE.out];first | (simp;done) | (simp;omega) | (rw[Bool.eq_iff_iff];simp)),Below.new _ _⟩
end Go.Proofs.YtgmaamnofhmecaaGreatDoor
