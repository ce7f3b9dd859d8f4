import Derived.Test.YtfpcjhajjejpdaaGreatDoorY04
import Derived.Test.YtfpcjhajjejpdaaGreatDoorY00
import Derived.Deep.RegionWith
import Derived.Deep.RegionHeld3
set_option maxHeartbeats 1000000
open Go.Lib renaming hid → zh
namespace Go.Proofs.YtfpcjhajjejpdaaGreatDoor
open Go.RowKit
def zFu (a b:Int):Int:=if a<b then -1 else if b<a then 1 else 0
def zBJ (a b:ByteArray):Int:=if Op.bytesLess a.toList b.toList=true then -1 else if a=b then 0 else 1
def vZ (a b:ByteArray):Int :=
 if (wF a&&wF b)=true then zFu (xT a.data.toList) (xT b.data.toList) else if wF a=true then -1 else if wF b=true then 1 else zBJ a b
def zAn:List ByteArray→List ByteArray→Int
 | [],[]=>0
 | [],_::_=>-1
 | _::_,[]=>1
 | x::r,y::s=>if vZ x y=0 then zAn r s else vZ x y
def orI (a b:Int):Int:=if a=0 then b else a
def zAU (n:ByteArray) (s:List ByteArray) (n':ByteArray) (s':List ByteArray):Int:=orI (zBJ n n') (zAn s s')
theorem zFe (x:Int) (w:World):Calls Tryz.prog 204 #[.int .i64 x] w fun e w'=>e=.returned (.bool false)∧w=w':=by
 have hb:(x != x)=false:=by simp
 go_enter Tryz.func204,Tryz.ntmps204;go_wp2_with fail;go_ret;exact⟨rfl,rfl⟩
theorem zFd (x:ByteArray) (w:World):Calls Tryz.prog 197 #[.string x] w fun e w'=>e=.returned (.bool false)∧w=w':=by
 go_enter Tryz.func197,Tryz.ntmps197;go_wp2_with fail;go_ret;exact⟨rfl,rfl⟩
theorem zMz (a b:Int) (w:World):Calls Tryz.prog 169 #[.int .i64 a,.int .i64 b] w fun e w'=>e=.returned (.int .i64 (zFu a b))∧w=w':=by
 have H1:=zh (zFe a);have H2:=zh (zFe b);have HR:Hid (zFu a b=if a<b then -1 else if b<a then 1 else 0):=rfl;generalize zFu a b=R at *;by_cases h1:a<b
 · have HE:Hid (R=-1):=by unfold Hid;rw[HR.out,if_pos h1]
   go_enter Tryz.func169,Tryz.ntmps169;go_wp2_with fail;refine(H1.out _).mono ?_;rintro e w1 ⟨rfl,rfl⟩;go_wp2_with fail;refine(H2.out _).mono ?_;rintro e w1 ⟨rfl,rfl⟩;go_wp2_with fail;go_ret;exact⟨zC0 HE.out.symm,rfl⟩
 · by_cases h2:b<a
   · have HE:Hid (R=1):=by unfold Hid;rw[HR.out,if_neg h1,if_pos h2]
     go_enter Tryz.func169,Tryz.ntmps169;go_wp2_with fail;refine(H1.out _).mono ?_;rintro e w1 ⟨rfl,rfl⟩;go_wp2_with fail;refine(H2.out _).mono ?_;rintro e w1 ⟨rfl,rfl⟩;go_wp2_with fail;go_ret;exact⟨zC0 HE.out.symm,rfl⟩
   · have HE:Hid (R=0):=by unfold Hid;rw[HR.out,if_neg h1,if_neg h2]
     go_enter Tryz.func169,Tryz.ntmps169;go_wp2_with fail;refine(H1.out _).mono ?_;rintro e w1 ⟨rfl,rfl⟩;go_wp2_with fail;refine(H2.out _).mono ?_;rintro e w1 ⟨rfl,rfl⟩;go_wp2_with fail;go_ret;exact⟨zC0 HE.out.symm,rfl⟩
theorem zIF (a b:ByteArray) (w:World):Calls Tryz.prog 158 #[.string a,.string b] w fun e w'=>e=.returned (.int .i64 (zBJ a b))∧w=w':=by
 have H1:=zh (zFd a);have H2:=zh (zFd b);have HR:Hid (zBJ a b=if Op.bytesLess a.toList b.toList=true then -1 else if a=b then 0 else 1):=rfl;generalize zBJ a b=R at *;cases h1:Op.bytesLess a.toList b.toList
 · by_cases h2:a=b
   · have HE:Hid (R=0):=by unfold Hid;rw[HR.out,h1,if_pos h2];rfl
     subst h2;go_enter Tryz.func158,Tryz.ntmps158;go_wp2_with fail;refine(H1.out _).mono ?_;rintro e w1 ⟨rfl,rfl⟩;go_wp2_with fail;refine(H2.out _).mono ?_;rintro e w1 ⟨rfl,rfl⟩;go_wp2_with fail;go_ret;exact⟨zC0 HE.out.symm,rfl⟩
   · have HE:Hid (R=1):=by unfold Hid;rw[HR.out,h1,if_neg h2];rfl
     have hb:=yJ h2;have hb':=zB0 h2;clear h2;go_enter Tryz.func158,Tryz.ntmps158;go_wp2_with fail;refine(H1.out _).mono ?_;rintro e w1 ⟨rfl,rfl⟩;go_wp2_with fail;refine(H2.out _).mono ?_;rintro e w1 ⟨rfl,rfl⟩;go_wp2_with fail;go_ret;exact⟨zC0 HE.out.symm,rfl⟩
 · have HE:Hid (R=-1):=by unfold Hid;rw[HR.out,h1];rfl
   go_enter Tryz.func158,Tryz.ntmps158;go_wp2_with fail;refine(H1.out _).mono ?_;rintro e w1 ⟨rfl,rfl⟩;go_wp2_with fail;refine(H2.out _).mono ?_;rintro e w1 ⟨rfl,rfl⟩;go_wp2_with fail;go_ret;exact⟨zC0 HE.out.symm,rfl⟩
theorem zCe (a b:ByteArray) (w:World) (htab:uX w) (ha:a.size≤1048576) (hb:b.size≤1048576) :
 Calls Tryz.prog 114 #[.string a,.string b] w fun e w'=>e=.returned (.int .i64 (vZ a b))∧Below w.heap.size w w':=by
 have HK1:=zh (fun W hW=>zEg a W hW ha);have HK2:=zh (fun W hW=>zEg b W hW hb);have HK3:=zh (fun W=>zDG a W ha);have HK4:=zh (fun W=>zDG b W hb);rw[zKz]at HK3 HK4;have HT:=zh htab;have HR:Hid (vZ a b=if (wF a&&wF b)=true then zFu (xT a.data.toList) (xT b.data.toList) else if wF a=true then -1 else if wF b=true then 1 else zBJ a b):=rfl;clear htab;generalize vZ a b=R at *;generalize wF a=x at *;generalize wF b=y at *;generalize xT a.data.toList=p at *;generalize xT b.data.toList=q at *;go_enter Tryz.func114,Tryz.ntmps114;go_wp2_with fail;refine(HK1.out _ HT.out).mono ?_;rintro e w1 ⟨rfl,hb1⟩;have HT1:=zh (vF HT.out hb1);have HB1:=zh hb1;clear hb1;go_wp2_with fail;refine(HK2.out _ HT1.out).mono ?_;rintro e w2 ⟨rfl,hb2⟩;have HB2:=zh (HB1.out.later hb2);clear hb2;cases x
 · cases y
   · have HE:Hid (R=zBJ a b):=HR.out;go_wp2_with fail;refine(zIF _ _ _).mono ?_;rintro e w3 ⟨rfl,rfl⟩;go_wp2_with fail;go_ret;exact⟨zC0 HE.out.symm,HB2.out⟩
   · have HE:Hid (R=1):=HR.out;go_wp2_with fail;go_ret;exact⟨zC0 HE.out.symm,HB2.out⟩
 · cases y
   · have HE:Hid (R=-1):=HR.out;go_wp2_with fail;go_ret;exact⟨zC0 HE.out.symm,HB2.out⟩
   · have HE:Hid (R=zFu p q):=HR.out;go_wp2_with fail;refine(HK3.out _).mono ?_;rintro e w3 ⟨rfl,hb3⟩;have HB3:=zh (HB2.out.later hb3);clear hb3;go_wp2_with fail;refine(HK4.out _).mono ?_;rintro e w4 ⟨rfl,hb4⟩;have HB4:=zh (HB3.out.later hb4);clear hb4;go_wp2_with fail;refine(zMz _ _ _).mono ?_;rintro e w5 ⟨rfl,rfl⟩;go_wp2_with fail;go_ret;exact⟨zC0 HE.out.symm,HB4.out⟩
theorem zLx (a b:List ByteArray) (k:Nat) (h:k<a.length) (h':k<b.length) :
 zAn (a.drop k) (b.drop k)=if vZ (a.getD k ByteArray.empty) (b.getD k ByteArray.empty)=0 then zAn (a.drop (k+1)) (b.drop (k+1)) else vZ (a.getD k ByteArray.empty) (b.getD k ByteArray.empty):=by
 rw[List.drop_eq_getElem_cons h,List.drop_eq_getElem_cons h'];simp[zAn,List.getD_eq_getElem?_getD,List.getElem?_eq_getElem h,List.getElem?_eq_getElem h']
theorem zMy:∀(a b:List ByteArray),a=[]→zAn a b=if a.length<b.length then -1 else 0
 | [],[],_=>rfl
 | [],_::_,_=>by simp[zAn]
 | _::_,_,h=>by simp at h
theorem zLy:∀(a b:List ByteArray),a≠[]→b=[]→zAn a b=1
 | [],_,h,_=>absurd rfl h
 | _::_,[],_,_=>rfl
 | _::_,_::_,_,h=>by simp at h
theorem zDK (A A':Option Addr) (n c n' c':Nat) (ss ts:List ByteArray) (w:World) (htab:uX w) (h:Strs w w.heap.size A n ss) (h':Strs w w.heap.size A' n' ts) (hn:n≤1048576) (hn':n'≤1048576)
 (hz:∀s∈ss,s.size≤1048576) (hz':∀s∈ts,s.size≤1048576) :
 Calls Tryz.prog 198 #[.slice A n c,.slice A' n' c',.func (.func 114) #[] #[]] w fun e w'=>e=.returned (.int .i64 (zAn ss ts))∧Below w.heap.size w w':=by
 have eg:∀args w,(callFunc 114 args).run Tryz.prog w=.ok (.enter 114 args) w:=enters_of Tryz.func114 (by kernel_rfl) rfl;have Hh:=zh h;have Hh':=zh h';have Hlen:=zh h.1;have Hlen':=zh h'.1;have Hz:=zh hz;have Hz':=zh hz';have HT:=zh htab;clear h h' hz hz' htab;go_enter Tryz.func198,Tryz.ntmps198;go_wp2_with fail;go_loopw [13] (fun i wr=>∃(k:Nat),k≤n∧k≤n'∧i=.int .i64 k∧Below w.heap.size w wr∧Hid (zAn ss ts=zAn (ss.drop k) (ts.drop k))) (fun i _=>n-(intOf i).toNat);case atStart=>exact⟨0,Nat.zero_le _,Nat.zero_le _,rfl,Below.refl _ _,rfl⟩
 case round =>
  obtain⟨k,hk,hk',rfl,hb,hS⟩:=hrel;have HB:=zh hb;clear hb;by_cases hlt:k<n
  · by_cases hlt':k<n'
    · obtain⟨b,o,rfl,hbB,hcell⟩:=(Hh.out.later HB.out).2 (by omega);obtain⟨b',o',rfl,hbB',hcell'⟩:=(Hh'.out.later HB.out).2 (by omega);have hck:=hcell k hlt;have hck':=hcell' k hlt';clear hcell hcell';have HS:=zh (zLx ss ts k (by rw[Hlen.out];exact hlt) (by rw[Hlen'.out];exact hlt'));have HK:=zh (zCe (ss.getD k ByteArray.empty) (ts.getD k ByteArray.empty) wr (vF HT.out HB.out) (zAL Hz.out k (by rw[Hlen.out];exact hlt)) (zAL Hz'.out k (by rw[Hlen'.out];exact hlt')));generalize ss.getD k ByteArray.empty=s at *;generalize ts.getD k ByteArray.empty=t at *;generalize vZ s t=x at *;go_wp2_with fail;refine HK.out.mono ?_;rintro e w1 ⟨rfl,hb1⟩;have HB1:=zh (HB.out.later hb1);clear hb1;by_cases hx:x=0
      · subst hx;go_wp2_with fail;go_roundw;case rel=>exact⟨k+1,by omega,by omega,by go_num,HB1.out,by unfold Hid;rw[hS.out,HS.out];simp⟩
        case measure=>simp[intOf];omega
      · have hbx:(x != 0)=true:=by rw[bne_iff_ne];exact hx
        have HE:Hid (zAn ss ts=x):=by unfold Hid;rw[hS.out,HS.out,if_neg hx]
        clear hx;go_wp2_with fail;go_ret;exact⟨zC0 HE.out.symm,HB1.out⟩
    · have HE:Hid (zAn ss ts=1):=by unfold Hid;rw[hS.out,zLy _ _ (fun he=>by have:=congrArg List.length he;rw[List.length_drop,Hlen.out]at this;simp at this;omega) (List.drop_of_length_le (by rw[Hlen'.out];omega))]
      obtain⟨b,o,rfl,hbB,hcell⟩:=(Hh.out.later HB.out).2 (by omega);have hck:=hcell k hlt;clear hcell;go_wp2_with fail;go_ret;exact⟨zC0 HE.out.symm,HB.out⟩
  · have HE:Hid (zAn ss ts=if n<n' then -1 else 0):=by
     unfold Hid;obtain rfl:k=n:=by omega
     rw[hS.out,zMy _ _ (List.drop_of_length_le (by rw[Hlen.out];omega)),List.length_drop,List.length_drop,Hlen.out,Hlen'.out];by_cases hc:k<n'
     · rw[if_pos (by omega),if_pos hc]
     · rw[if_neg (by omega),if_neg hc]
    by_cases hc:n<n'
    all_goals
     go_wp2_with fail;go_ret;exact⟨zC0 (by rw[HE.out];first | rw[if_pos hc] | rw[if_neg hc]),HB.out⟩
theorem zDF (A A':Option Addr) (n c n' c':Nat) (ss ts:List ByteArray) (w:World) (htab:uX w) (h:Strs w w.heap.size A n ss) (h':Strs w w.heap.size A' n' ts) (hn:n≤1048576) (hn':n'≤1048576)
 (hz:∀s∈ss,s.size≤1048576) (hz':∀s∈ts,s.size≤1048576) :
 Calls Tryz.prog 159 #[.slice A n c,.slice A' n' c'] w fun e w'=>e=.returned (.int .i64 (zAn ss ts))∧Below w.heap.size w w':=by
 have HK:=zh (zDK A A' n c n' c' ss ts w htab h h' hn hn' hz hz');clear htab h h' hz hz';generalize zAn ss ts=x at *;go_enter Tryz.func159,Tryz.ntmps159;go_wp2_with fail;refine HK.out.mono ?_;rintro e w1 ⟨rfl,hb1⟩;have HB1:=zh hb1;clear hb1;go_wp2_with fail;go_ret;exact⟨rfl,HB1.out⟩
theorem zNt (g:Nat) (x y:Int) (w:World) (c0:w.cell? ⟨g,0,none⟩=some (.int .i64 x)) (c1:w.cell? ⟨g,1,none⟩=some (.int .i64 y)) :
 Calls Tryz.prog 157 #[.slice (some ⟨g,0,none⟩) 2 2] w fun e w'=>e=.returned (.int .i64 (orI x y))∧w=w':=by
 have HR:Hid (orI x y=if x=0 then y else x):=rfl;generalize orI x y=R at *;go_enter Tryz.func157,Tryz.ntmps157;go_wp2_with fail;refine wp_loop_rounds 3 ?_;rw[rounds_succ];by_cases hx:x=0
 · subst hx;go_wp2_with fail;rw[rounds_succ];by_cases hy:y=0
   · subst hy;go_wp2_with fail;rw[rounds_succ];go_wp2_with fail;go_ret;exact⟨zC0 (by rw[HR.out];rfl),rfl⟩
   · have hb:(y != 0)=true:=by rw[bne_iff_ne];exact hy
     clear hy;go_wp2_with fail;go_ret;exact⟨zC0 (by rw[HR.out];rfl),rfl⟩
 · have hb:(x != 0)=true:=by rw[bne_iff_ne];exact hx
   have HE:Hid (R=x):=by unfold Hid;rw[HR.out,if_neg hx]
   clear hx;go_wp2_with fail;go_ret;exact⟨zC0 HE.out.symm,rfl⟩
end Go.Proofs.YtfpcjhajjejpdaaGreatDoor
namespace Go.Proofs.YtfpcjhajjejpdaaGreatDoor
open Go.RowKit
def vJ {α:Type} (p:α→Bool):List α→Nat→Int
 | [],_=>-1
 | d::r,k=>if p d=true then k else vJ p r (k+1)
theorem zAt {α:Type} [Inhabited α] (p:α→Bool) (l:List α) (k:Nat) (h:k<l.length):vJ p (l.drop k) k=if p (l.getD k default)=true then (k:Int) else vJ p (l.drop (k+1)) (k+1):=by
 rw[List.drop_eq_getElem_cons h];simp[vJ,List.getD_eq_getElem?_getD,List.getElem?_eq_getElem h]
theorem zKE {α:Type} (p:α→Bool):∀(l:List α) (k:Nat),-1≤vJ p l k∧vJ p l k<k+l.length
 | [],k=>by simp[vJ];omega
 | d::r,k=>by have:=zKE p r (k+1);unfold vJ;simp only[List.length_cons];split <;> omega
end Go.Proofs.YtfpcjhajjejpdaaGreatDoor
namespace Go.Proofs.YtfpcjhajjejpdaaGreatDoor
open Go.RowKit
theorem zNn (w:World) (x y:Value) (t:TypeId):(w.alloc (.cells #[x,y] t)).cell? ⟨w.heap.size,0,none⟩=some x:=cell_of_row _ w.heap.size 0 #[x,y] t (0,0) (heap_alloc_new w _)
theorem zNm (w:World) (x y:Value) (t:TypeId):(w.alloc (.cells #[x,y] t)).cell? ⟨w.heap.size,1,none⟩=some y:=cell_of_row _ w.heap.size 1 #[x,y] t (0,0) (heap_alloc_new w _)
theorem zCd (nm nm':ByteArray) (A A':Option Addr) (n c n' c':Nat) (ss ts:List ByteArray) (w:World) (htab:uX w) (h:Strs w w.heap.size A n ss) (h':Strs w w.heap.size A' n' ts) (hn:n≤1048576) (hn':n'≤1048576)
 (hz:∀s∈ss,s.size≤1048576) (hz':∀s∈ts,s.size≤1048576) :
 Calls Tryz.prog 101 #[.string nm,.slice A n c,.string nm',.slice A' n' c'] w fun e w'=>e=.returned (.int .i64 (zAU nm ss nm' ts))∧Below w.heap.size w w':=by
 have HK1:=zh (zIF nm nm' w);have HK2:=zh (zDF A A' n c n' c' ss ts w htab h h' hn hn' hz hz');have HR:Hid (zAU nm ss nm' ts=orI (zBJ nm nm') (zAn ss ts)):=rfl;clear htab h h' hz hz';generalize zAU nm ss nm' ts=R at *;generalize zBJ nm nm'=x at *;generalize zAn ss ts=y at *;go_enter Tryz.func101,Tryz.ntmps101;go_wp2_with fail;refine HK1.out.mono ?_;rintro e w1 ⟨rfl,rfl⟩;go_wp2_with fail;refine HK2.out.mono ?_;rintro e w1 ⟨rfl,hb1⟩;have HB1:=zh hb1;clear hb1;go_wp2_with fail;refine(zNt _ x y _ (zNn _ _ _ _) (zNm _ _ _ _)).mono ?_;rintro e w2 ⟨rfl,rfl⟩;go_wp2_with fail;go_ret;exact⟨zC0 HR.out.symm,HB1.out.later (Below.new _ _)⟩
theorem zNd {ss ts:List ByteArray} (h:ss.length≠ts.length):eqS ss ts=false:=by
 unfold eqS;rw[decide_eq_false_iff_not];rintro rfl;exact h rfl
theorem zEk (A A':Option Addr) (n c n' c':Nat) (ss ts:List ByteArray) (w:World) (h:Strs w w.heap.size A n ss) (h':Strs w w.heap.size A' n' ts) (hn:n≤1048576) (hn':n'≤1048576) :
 Calls Tryz.prog 187 #[.slice A n c,.slice A' n' c'] w fun e w'=>e=.returned (.bool (eqS ss ts))∧∃q,w'=w.drewN q:=by
 obtain⟨hlen,hc⟩:=h;obtain⟨hlen',hc'⟩:=h';have Hc:=zh hc;have Hlen:=zh hlen;have Hc':=zh hc';have Hlen':=zh hlen';clear hc hlen hc' hlen';by_cases hne:n=n'
 · subst hne;have hE:=zAD ss ts;rw[Hlen.out,Hlen'.out]at hE;have HE:Hid (eqS ss ts=yD ss ts):=by unfold Hid;rw[←hE];simp
   clear hE;go_enter Tryz.func187,Tryz.ntmps187;go_wp2_with fail;go_loopw [13] (fun i wr=>∃(k:Nat),k≤n∧i=.int .i64 k∧(∃q,wr=w.drewN q)∧Hid (yD ss ts=yD (ss.drop k) (ts.drop k))) (fun i _=>n-(intOf i).toNat);case atStart=>exact⟨0,Nat.zero_le _,rfl,⟨0,rfl⟩,rfl⟩
   case round =>
    obtain⟨k,hk,rfl,⟨q,rfl⟩,hS⟩:=hrel;by_cases hlt:k<n
    · obtain⟨b,o,rfl,hb,hcell⟩:=Hc.out (by omega);obtain⟨b',o',rfl,hb',hcell'⟩:=Hc'.out (by omega);have hck:=hcell k hlt;have hck':=hcell' k (by omega);clear hcell hcell';have HS:=zh (zBm ss ts k (by rw[Hlen.out];exact hlt) (by rw[Hlen'.out];omega));generalize ss.getD k ByteArray.empty=s at *;generalize ts.getD k ByteArray.empty=t at *;go_wp2_with fail
      go_quiet (fail)
      go_wp2_with fail
      · go_ret;have hst:s≠t:=zGS (by assumption);exact⟨zA0 (by rw[HE.out,hS.out,HS.out,decide_eq_false hst];rfl),_,World.drewN_drewN _ _ _⟩
      · go_roundw;case rel=>have hst:s=t:=zGT (by assumption);exact⟨k+1,by omega,by go_num,⟨_,rfl⟩,by unfold Hid;rw[hS.out,HS.out,decide_eq_true hst];rfl⟩
        case measure=>simp[intOf];omega
    · go_wp2_with fail;go_ret;exact⟨zA0 (by rw[HE.out,hS.out,List.drop_of_length_le (by rw[Hlen.out];omega),zBQ]),_,rfl⟩
 · have HE:Hid (eqS ss ts=false):=zNd (by rw[Hlen.out,Hlen'.out];exact hne);have hb:((n:Int) != (n':Int))=true:=by rw[bne_iff_ne];omega
   have hb2:(n != n')=true:=by rw[bne_iff_ne];omega
   clear hne;go_enter Tryz.func187,Tryz.ntmps187;go_wp2_with fail;go_ret;exact⟨zA0 HE.out.symm,0,rfl⟩
theorem Strs.take {w:World} {B n:Nat} {A:Option Addr} {ss:List ByteArray} (h:Strs w B A n ss) (m:Nat) (hm:m≤n):Strs w B A m (ss.take m) :=
 ⟨by rw[List.length_take,h.1];omega,fun hp=>by
   obtain⟨b,o,e,hb,hc⟩:=h.2 (by omega);refine⟨b,o,e,hb,fun j hj=>?_⟩;rw[hc j (by omega)]
   simp[List.getD_eq_getElem?_getD,hj]⟩
theorem zBl:∀(a b:List ByteArray),(decide (a.length≤b.length)&&eqS (b.take a.length) a)=yD a b
 | [],b=>by simp[yD,eqS]
 | x::r,[]=>by simp[yD]
 | x::r,y::s=>by
   have:=zBl r s;simp only[yD,List.length_cons,List.take_succ_cons];rw[←this];unfold eqS;by_cases hx:x=y
   · subst hx;simp
   · have hyx:¬y=x:=fun h=>hx h.symm;simp[hx,hyx]
theorem zJY (A A':Option Addr) (n c n' c':Nat) (ss ts:List ByteArray) (w:World) (h:Strs w w.heap.size A n ss) (h':Strs w w.heap.size A' n' ts) (hn':n'≤1048576) (hc:n≤c) :
 Calls Tryz.prog 139 #[.slice A n c,.slice A' n' c'] w fun e w'=>e=.returned (.bool (yD ts ss))∧∃q,w'=w.drewN q:=by
 have hE:=zBl ts ss;rw[h.1,h'.1]at hE;by_cases hle:n'≤n
 · have HK:=zh (zEk A A' n' c n' c' (ss.take n') ts w (h.take n' hle) h' (by omega) hn');have HE:Hid (eqS (ss.take n') ts=yD ts ss):=by unfold Hid;rw[←hE];simp[hle]
   clear h h' hE;generalize eqS (ss.take n') ts=x at *;go_enter Tryz.func139,Tryz.ntmps139;go_wp2_with fail;refine HK.out.mono ?_;rintro e w1 ⟨rfl,q,rfl⟩;go_wp2_with fail;go_ret;exact⟨zA0 HE.out,q,rfl⟩
 · have HE:Hid (false=yD ts ss):=by unfold Hid;rw[←hE];simp[hle]
   clear h h' hE;go_enter Tryz.func139,Tryz.ntmps139;go_wp2_with fail;go_ret;exact⟨zA0 HE.out,0,rfl⟩
end Go.Proofs.YtfpcjhajjejpdaaGreatDoor
namespace Go.Proofs.YtfpcjhajjejpdaaGreatDoor
open Go.RowKit
theorem zCW (A A':Option Addr) (n c n' c':Nat) (ss ts:List ByteArray) (w:World) (h:Strs w w.heap.size A n ss) (h':Strs w w.heap.size A' n' ts) (hn:n≤1048576) (hn':n'≤1048576)
 (hz:∀s∈ss,s.size≤1048576) (hz':∀s∈ts,s.size≤1048576) :
 Calls Tryz.prog 210 #[.slice A n c,.slice A' n' c'] w fun e w'=>e=.returned (.bool (yK ss ts))∧Below w.heap.size w w':=by
 obtain⟨hlen,hc⟩:=h;obtain⟨hlen',hc'⟩:=h';have Hc:=zh hc;have Hlen:=zh hlen;have Hc':=zh hc';have Hlen':=zh hlen';have Hz:=zh hz;have Hz':=zh hz';clear hc hlen hc' hlen' hz hz';go_enter Tryz.func210,Tryz.ntmps210;go_wp2_with fail;go_loopw [5] (fun i wr=>∃(k:Nat),k≤n∧k≤n'∧i=.int .i64 k∧(∃q,wr=w.drewN q)∧Hid (yK ss ts=yK (ss.drop k) (ts.drop k))) (fun i _=>n-(intOf i).toNat);case atStart=>exact⟨0,Nat.zero_le _,Nat.zero_le _,rfl,⟨0,rfl⟩,rfl⟩
 case round =>
  obtain⟨k,hk,hk',rfl,⟨q,rfl⟩,hS⟩:=hrel;by_cases hlt:k<n
  · by_cases hlt':k<n'
    · obtain⟨b,o,rfl,hb,hcell⟩:=Hc.out (by omega);obtain⟨b',o',rfl,hb',hcell'⟩:=Hc'.out (by omega);have hck:=hcell k hlt;have hck':=hcell' k hlt';clear hcell hcell';have HS:=zh (zJD ss ts k (by rw[Hlen.out];exact hlt) (by rw[Hlen'.out];omega));have HK:=zh (fun W=>zCz (ss.getD k ByteArray.empty) (ts.getD k ByteArray.empty) W (zAL Hz.out k (by rw[Hlen.out];exact hlt)) (zAL Hz'.out k (by rw[Hlen'.out];exact hlt')));generalize ss.getD k ByteArray.empty=s at *;generalize ts.getD k ByteArray.empty=t at *;generalize wB s t=x at *;go_wp2_with fail
      go_quiet (fail)
      go_wp2_with fail
      · have hst:s≠t:=zGS (by assumption);have HF:Hid (yK ss ts=x):=by unfold Hid;rw[hS.out,HS.out,if_neg hst]
        clear hst
        go_region_held3 (fun w'=>w'.cell? ⟨b,o+k,none⟩=some (.string s)∧w'.cell? ⟨b',o'+k,none⟩=some (.string t)) (first | exact⟨hck,hck'⟩ | exact⟨cell_later hb1 hck,cell_later hb1 hck'⟩)
         (first | (go_at_call 55;refine(HK.out _).mono ?_;rintro e w1 ⟨rfl,hb1'⟩;have hb1:=zGN hb1';clear hb1'))
        have HB1:=zh hb1;clear hb1;go_wp2_with fail;go_ret;exact⟨zA0 HF.out.symm,HB1.out⟩
      · go_roundw;case rel=>have hst:s=t:=zGT (by assumption);exact⟨k+1,by omega,by omega,by go_num,⟨_,rfl⟩,by unfold Hid;rw[hS.out,HS.out,if_pos hst]⟩
        case measure=>simp[intOf];omega
    · have HF:Hid (yK ss ts=decide (n<n')):=by unfold Hid;rw[hS.out,zGp _ _ (Or.inr (List.drop_of_length_le (by rw[Hlen'.out];omega))),List.length_drop,List.length_drop,Hlen.out,Hlen'.out];rw[Bool.eq_iff_iff];simp <;> omega
      go_wp2_with fail;go_ret;exact⟨zA0 HF.out.symm,wA (Below.refl _ _) _⟩
  · have HF:Hid (yK ss ts=decide (n<n')):=by unfold Hid;rw[hS.out,zGp _ _ (Or.inl (List.drop_of_length_le (by rw[Hlen.out];omega))),List.length_drop,List.length_drop,Hlen.out,Hlen'.out];rw[Bool.eq_iff_iff];simp <;> omega
    go_wp2_with fail;go_ret;exact⟨zA0 HF.out.symm,wA (Below.refl _ _) _⟩
theorem zCB (A A':Option Addr) (n c n' c':Nat) (ss ts:List ByteArray) (w:World) (h:Strs w w.heap.size A n ss) (h':Strs w w.heap.size A' n' ts) (hn:n≤1048576) (hn':n'≤1048576)
 (hz:∀s∈ss,s.size≤1048576) (hz':∀s∈ts,s.size≤1048576) :
 Calls Tryz.prog 171 #[.slice A n c,.slice A' n' c'] w fun e w'=>e=.returned (.bool (yK ss ts))∧Below w.heap.size w w':=by
 have HK:=zh (zCW A A' n c n' c' ss ts w h h' hn hn' hz hz');clear h h' hz hz';generalize yK ss ts=x at *;go_enter Tryz.func171,Tryz.ntmps171;go_wp2_with fail;refine HK.out.mono ?_;rintro e w1 ⟨rfl,hb1⟩;have HB:=zh hb1;clear hb1;go_wp2_with fail;go_ret;exact⟨rfl,HB.out⟩
theorem wW (nm:ByteArray) (A:Option Addr) (n c:Nat) (ss:List ByteArray) (w:World) (hs:nm.size≤1048576) (h:Strs w w.heap.size A n ss) (hn:n≤1048576) (hz:∀s∈ss,s.size≤1048576) :
 Calls Tryz.prog 132 #[.string nm,.slice A n c] w fun e w'=>e=.returned (.bool (zI0 nm ss))∧w=w':=by
 have HK1:=zh (xF nm w hs);have HK2:=zh (zED A n c ss w h hn hz);have hR:zI0 nm ss=zI0 nm ss:=rfl
 conv at hR=>rhs;unfold zI0
 generalize zI0 nm ss=R at *;clear h hz;generalize xB nm=x at *;generalize wT ss=y at *;have HR:=zh hR;clear hR;go_enter Tryz.func132,Tryz.ntmps132;go_wp2_with fail;refine HK1.out.mono ?_;rintro e w1 ⟨rfl,rfl⟩;cases x
 · go_wp2_with fail;go_ret;exact⟨zA0 (by rw[HR.out];rfl),rfl⟩
 · go_wp2_with fail;refine HK2.out.mono ?_;rintro e w1 ⟨rfl,rfl⟩;go_wp2_with fail;go_ret;exact⟨zA0 (by rw[HR.out];rfl),rfl⟩
def zAI (n:ByteArray) (s:List ByteArray) (n':ByteArray) (s':List ByteArray):Bool:=Op.bytesLess n.toList n'.toList||(decide (n=n')&&yK s s')
theorem zDZ (nm nm':ByteArray) (A A':Option Addr) (n c n' c':Nat) (ss ts:List ByteArray) (w:World) (h:Strs w w.heap.size A n ss) (h':Strs w w.heap.size A' n' ts) (hn:n≤1048576) (hn':n'≤1048576)
 (hz:∀s∈ss,s.size≤1048576) (hz':∀s∈ts,s.size≤1048576) :
 Calls Tryz.prog 117 #[.string nm,.slice A n c,.string nm',.slice A' n' c'] w fun e w'=>e=.returned (.bool (zAI nm ss nm' ts))∧Below w.heap.size w w':=by
 have HK:=zh (zCB A A' n c n' c' ss ts w h h' hn hn' hz hz');have hR:zAI nm ss nm' ts=(Op.bytesLess nm.toList nm'.toList||(decide (nm=nm')&&yK ss ts)):=rfl;generalize zAI nm ss nm' ts=R at *;clear h h' hz hz';generalize yK ss ts=x at *;cases hl:Op.bytesLess nm.toList nm'.toList
 · by_cases he:nm=nm'
   · have HE:Hid (R=x):=by unfold Hid;rw[hR,hl];simp[he]
     subst he;clear hR;go_enter Tryz.func117,Tryz.ntmps117;go_wp2_with fail;refine HK.out.mono ?_;rintro e w1 ⟨rfl,hb1⟩;have HB:=zh hb1;clear hb1;go_wp2_with fail;go_ret;exact⟨zA0 HE.out.symm,HB.out⟩
   · have HE:Hid (R=false):=by unfold Hid;rw[hR,hl];simp[he]
     have hb:=zB0 he;clear hR he;go_enter Tryz.func117,Tryz.ntmps117;go_wp2_with fail;go_ret;exact⟨zA0 HE.out.symm,Below.refl _ _⟩
 · have HE:Hid (R=true):=by unfold Hid;rw[hR,hl];rfl
   clear hR;go_enter Tryz.func117,Tryz.ntmps117;go_wp2_with fail;go_ret;exact⟨zA0 HE.out.symm,Below.refl _ _⟩
def zAx (d:NodeD):Bool:=zI0 d.name d.subs&&decide (d.val.size≤64)
theorem zIj (c0 c1 c2:Value) (d:NodeD) (w:World) (h:NodeR w w.heap.size c0 c1 c2 d) (hs:d.small) :
 Calls Tryz.prog 116 #[.agg #[c0,c1,c2]] w fun e w'=>e=.returned (.bool (zAx d))∧Below w.heap.size w w':=by
 obtain⟨rfl,⟨A,n,cap,rfl,hS,_⟩,rfl⟩:=h;obtain⟨f1,⟨f2,f3⟩,f4⟩:=hs;have HK:=zh (fun o=>wW d.name A n cap d.subs (w.alloc o) f1 (hS.later (Below.new _ _)) (by rw[←hS.1];exact f2) f3);have hR:zAx d=(zI0 d.name d.subs&&decide (d.val.size≤64)):=rfl;generalize zAx d=R at *;generalize zI0 d.name d.subs=x at *;clear hS f2 f3 f1;generalize d.val=v at *;generalize d.name=nm at *;cases x
 · have HE:Hid (R=false):=by unfold Hid;rw[hR];rfl
   clear hR;go_enter Tryz.func116,Tryz.ntmps116;go_wp2_with fail;refine(HK.out _).mono ?_;rintro e w1 ⟨rfl,rfl⟩;go_wp2_with fail;go_ret;exact⟨zA0 HE.out.symm,Below.new _ _⟩
 · have HE:Hid (R=decide (v.size≤64)):=by unfold Hid;rw[hR];rfl
   clear hR;go_enter Tryz.func116,Tryz.ntmps116;go_wp2_with fail;refine(HK.out _).mono ?_;rintro e w1 ⟨rfl,rfl⟩;by_cases hv:v.size≤64
   · have HE2:Hid (R=true):=by unfold Hid;rw[HE.out];simp[hv]
     go_wp2_with fail;go_ret;exact⟨zA0 (by rw[HE.out];first | (simp;done) | (simp;omega) | (rw[Bool.eq_iff_iff];simp)),Below.new _ _⟩
   · have HE2:Hid (R=false):=by unfold Hid;rw[HE.out];simp[hv]
     go_wp2_with fail;go_ret;exact⟨zA0 (by rw[HE.out];first | (simp;done) | (simp;omega) | (rw[Bool.eq_iff_iff];simp)),Below.new _ _⟩
end Go.Proofs.YtfpcjhajjejpdaaGreatDoor
