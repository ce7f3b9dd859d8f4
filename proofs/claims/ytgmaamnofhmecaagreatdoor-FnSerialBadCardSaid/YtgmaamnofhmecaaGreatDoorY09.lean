import Derived.Test.YtgmaamnofhmecaaGreatDoorY08
import Derived.Test.YtgmaamnofhmecaaGreatDoorY03
import Derived.Deep.RegionWith
set_option linter.unusedSimpArgs false
set_option maxHeartbeats 1000000
open Go.Lib renaming hid → zh
namespace Go.Proofs.YtgmaamnofhmecaaGreatDoor
open Go.RowKit
def zEm (a b:Int):Int:=if a<b then -1 else if b<a then 1 else 0
def zAH (a b:ByteArray):Int:=if Op.bytesLess a.toList b.toList=true then -1 else if a=b then 0 else 1
def zAG (a b:ByteArray):Int :=
 if (wB a&&wB b)=true then zEm (zH0 a.data.toList) (zH0 b.data.toList) else if wB a=true then -1 else if wB b=true then 1 else zAH a b
def vQ:List ByteArray→List ByteArray→Int
 | [],[]=>0
 | [],_::_=>-1
 | _::_,[]=>1
 | x::r,y::s=>if zAG x y=0 then vQ r s else zAG x y
def orI (a b:Int):Int:=if a=0 then b else a
def zP0 (n:ByteArray) (s:List ByteArray) (n':ByteArray) (s':List ByteArray):Int:=orI (zAH n n') (vQ s s')
theorem zDw (x:Int) (w:World):Calls Tryz.prog 289 #[.int .i64 x] w fun e w'=>e=.returned (.bool false)∧w=w':=by
 have hb:(x != x)=false:=by simp
 go_enter Tryz.func289,Tryz.ntmps289;go_wp2_with fail;go_ret;exact⟨rfl,rfl⟩
theorem zDv (x:ByteArray) (w:World):Calls Tryz.prog 236 #[.string x] w fun e w'=>e=.returned (.bool false)∧w=w':=by
 go_enter Tryz.func236,Tryz.ntmps236;go_wp2_with fail;go_ret;exact⟨rfl,rfl⟩
theorem zJN (a b:Int) (w:World):Calls Tryz.prog 268 #[.int .i64 a,.int .i64 b] w fun e w'=>e=.returned (.int .i64 (zEm a b))∧w=w':=by
 have H1:=zh (zDw a);have H2:=zh (zDw b);have HR:Hid (zEm a b=if a<b then -1 else if b<a then 1 else 0):=rfl;generalize zEm a b=R at *;by_cases h1:a<b
 · have HE:Hid (R=-1):=by unfold Hid;rw[HR.out,if_pos h1]
   go_enter Tryz.func268,Tryz.ntmps268;go_wp2_with fail;refine(H1.out _).mono ?_;rintro e w1 ⟨rfl,rfl⟩;go_wp2_with fail;refine(H2.out _).mono ?_;rintro e w1 ⟨rfl,rfl⟩;go_wp2_with fail;go_ret;exact⟨xB HE.out.symm,rfl⟩
 · by_cases h2:b<a
   · have HE:Hid (R=1):=by unfold Hid;rw[HR.out,if_neg h1,if_pos h2]
     go_enter Tryz.func268,Tryz.ntmps268;go_wp2_with fail;refine(H1.out _).mono ?_;rintro e w1 ⟨rfl,rfl⟩;go_wp2_with fail;refine(H2.out _).mono ?_;rintro e w1 ⟨rfl,rfl⟩;go_wp2_with fail;go_ret;exact⟨xB HE.out.symm,rfl⟩
   · have HE:Hid (R=0):=by unfold Hid;rw[HR.out,if_neg h1,if_neg h2]
     go_enter Tryz.func268,Tryz.ntmps268;go_wp2_with fail;refine(H1.out _).mono ?_;rintro e w1 ⟨rfl,rfl⟩;go_wp2_with fail;refine(H2.out _).mono ?_;rintro e w1 ⟨rfl,rfl⟩;go_wp2_with fail;go_ret;exact⟨xB HE.out.symm,rfl⟩
theorem zGI (a b:ByteArray) (w:World):Calls Tryz.prog 191 #[.string a,.string b] w fun e w'=>e=.returned (.int .i64 (zAH a b))∧w=w':=by
 have H1:=zh (zDv a);have H2:=zh (zDv b);have HR:Hid (zAH a b=if Op.bytesLess a.toList b.toList=true then -1 else if a=b then 0 else 1):=rfl;generalize zAH a b=R at *;cases h1:Op.bytesLess a.toList b.toList
 · by_cases h2:a=b
   · have HE:Hid (R=0):=by unfold Hid;rw[HR.out,h1,if_pos h2];rfl
     subst h2;go_enter Tryz.func191,Tryz.ntmps191;go_wp2_with fail;refine(H1.out _).mono ?_;rintro e w1 ⟨rfl,rfl⟩;go_wp2_with fail;refine(H2.out _).mono ?_;rintro e w1 ⟨rfl,rfl⟩;go_wp2_with fail;go_ret;exact⟨xB HE.out.symm,rfl⟩
   · have HE:Hid (R=1):=by unfold Hid;rw[HR.out,h1,if_neg h2];rfl
     have hb:=zBu h2;have hb':=zG0 h2;clear h2;go_enter Tryz.func191,Tryz.ntmps191;go_wp2_with fail;refine(H1.out _).mono ?_;rintro e w1 ⟨rfl,rfl⟩;go_wp2_with fail;refine(H2.out _).mono ?_;rintro e w1 ⟨rfl,rfl⟩;go_wp2_with fail;go_ret;exact⟨xB HE.out.symm,rfl⟩
 · have HE:Hid (R=-1):=by unfold Hid;rw[HR.out,h1];rfl
   go_enter Tryz.func191,Tryz.ntmps191;go_wp2_with fail;refine(H1.out _).mono ?_;rintro e w1 ⟨rfl,rfl⟩;go_wp2_with fail;refine(H2.out _).mono ?_;rintro e w1 ⟨rfl,rfl⟩;go_wp2_with fail;go_ret;exact⟨xB HE.out.symm,rfl⟩
theorem zCA (a b:ByteArray) (w:World) (htab:uG w) (ha:a.size≤1048576) (hb:b.size≤1048576) :
 Calls Tryz.prog 238 #[.string a,.string b] w fun e w'=>e=.returned (.int .i64 (zAG a b))∧Below w.heap.size w w':=by
 have HK1:=zh (fun W hW=>zAN a W hW ha);have HK2:=zh (fun W hW=>zAN b W hW hb);have HK3:=zh (fun W=>zBc a W ha);have HK4:=zh (fun W=>zBc b W hb);rw[zFh]at HK3 HK4;have HT:=zh htab;have HR:Hid (zAG a b=if (wB a&&wB b)=true then zEm (zH0 a.data.toList) (zH0 b.data.toList) else if wB a=true then -1 else if wB b=true then 1 else zAH a b):=rfl;clear htab;generalize zAG a b=R at *;generalize wB a=x at *;generalize wB b=y at *;generalize zH0 a.data.toList=p at *;generalize zH0 b.data.toList=q at *;go_enter Tryz.func238,Tryz.ntmps238;go_wp2_with fail;refine(HK1.out _ HT.out).mono ?_;rintro e w1 ⟨rfl,hb1⟩;have HT1:=zh (wA HT.out hb1);have HB1:=zh hb1;clear hb1;go_wp2_with fail;refine(HK2.out _ HT1.out).mono ?_;rintro e w2 ⟨rfl,hb2⟩;have HB2:=zh (HB1.out.later hb2);clear hb2;cases x
 · cases y
   · have HE:Hid (R=zAH a b):=HR.out;go_wp2_with fail;refine(zGI _ _ _).mono ?_;rintro e w3 ⟨rfl,rfl⟩;go_wp2_with fail;go_ret;exact⟨xB HE.out.symm,HB2.out⟩
   · have HE:Hid (R=1):=HR.out;go_wp2_with fail;go_ret;exact⟨xB HE.out.symm,HB2.out⟩
 · cases y
   · have HE:Hid (R=-1):=HR.out;go_wp2_with fail;go_ret;exact⟨xB HE.out.symm,HB2.out⟩
   · have HE:Hid (R=zEm p q):=HR.out;go_wp2_with fail;refine(HK3.out _).mono ?_;rintro e w3 ⟨rfl,hb3⟩;have HB3:=zh (HB2.out.later hb3);clear hb3;go_wp2_with fail;refine(HK4.out _).mono ?_;rintro e w4 ⟨rfl,hb4⟩;have HB4:=zh (HB3.out.later hb4);clear hb4;go_wp2_with fail;refine(zJN _ _ _).mono ?_;rintro e w5 ⟨rfl,rfl⟩;go_wp2_with fail;go_ret;exact⟨xB HE.out.symm,HB4.out⟩
theorem zIS (a b:List ByteArray) (k:Nat) (h:k<a.length) (h':k<b.length) :
 vQ (a.drop k) (b.drop k)=if zAG (a.getD k ByteArray.empty) (b.getD k ByteArray.empty)=0 then vQ (a.drop (k+1)) (b.drop (k+1)) else zAG (a.getD k ByteArray.empty) (b.getD k ByteArray.empty):=by
 rw[List.drop_eq_getElem_cons h,List.drop_eq_getElem_cons h'];simp[vQ,List.getD_eq_getElem?_getD,List.getElem?_eq_getElem h,List.getElem?_eq_getElem h']
theorem zJM:∀(a b:List ByteArray),a=[]→vQ a b=if a.length<b.length then -1 else 0
 | [],[],_=>rfl
 | [],_::_,_=>by simp[vQ]
 | _::_,_,h=>by simp at h
theorem zIT:∀(a b:List ByteArray),a≠[]→b=[]→vQ a b=1
 | [],_,h,_=>absurd rfl h
 | _::_,[],_,_=>rfl
 | _::_,_::_,_,h=>by simp at h
theorem zCl (A A':Option Addr) (n c n' c':Nat) (ss ts:List ByteArray) (w:World) (htab:uG w) (h:Strs w w.heap.size A n ss) (h':Strs w w.heap.size A' n' ts) (hn:n≤1048576) (hn':n'≤1048576)
 (hz:∀s∈ss,s.size≤1048576) (hz':∀s∈ts,s.size≤1048576) :
 Calls Tryz.prog 237 #[.slice A n c,.slice A' n' c',.func (.func 238) #[] #[]] w fun e w'=>e=.returned (.int .i64 (vQ ss ts))∧Below w.heap.size w w':=by
 have eg:∀args w,(callFunc 238 args).run Tryz.prog w=.ok (.enter 238 args) w:=enters_of Tryz.func238 (by kernel_rfl) rfl;have Hh:=zh h;have Hh':=zh h';have Hlen:=zh h.1;have Hlen':=zh h'.1;have Hz:=zh hz;have Hz':=zh hz';have HT:=zh htab;clear h h' hz hz' htab;go_enter Tryz.func237,Tryz.ntmps237;go_wp2_with fail;go_loopw [13] (fun i wr=>∃(k:Nat),k≤n∧k≤n'∧i=.int .i64 k∧Below w.heap.size w wr∧Hid (vQ ss ts=vQ (ss.drop k) (ts.drop k))) (fun i _=>n-(intOf i).toNat);case atStart=>exact⟨0,Nat.zero_le _,Nat.zero_le _,rfl,Below.refl _ _,rfl⟩
 case round =>
  obtain⟨k,hk,hk',rfl,hb,hS⟩:=hrel;have HB:=zh hb;clear hb;by_cases hlt:k<n
  · by_cases hlt':k<n'
    · obtain⟨b,o,rfl,hbB,hcell⟩:=(Hh.out.later HB.out).2 (by omega);obtain⟨b',o',rfl,hbB',hcell'⟩:=(Hh'.out.later HB.out).2 (by omega);have hck:=hcell k hlt;have hck':=hcell' k hlt';clear hcell hcell';have HS:=zh (zIS ss ts k (by rw[Hlen.out];exact hlt) (by rw[Hlen'.out];exact hlt'));have HK:=zh (zCA (ss.getD k ByteArray.empty) (ts.getD k ByteArray.empty) wr (wA HT.out HB.out) (zCV Hz.out k (by rw[Hlen.out];exact hlt)) (zCV Hz'.out k (by rw[Hlen'.out];exact hlt')));generalize ss.getD k ByteArray.empty=s at *;generalize ts.getD k ByteArray.empty=t at *;generalize zAG s t=x at *;go_wp2_with fail;refine HK.out.mono ?_;rintro e w1 ⟨rfl,hb1⟩;have HB1:=zh (HB.out.later hb1);clear hb1;by_cases hx:x=0
      · subst hx;go_wp2_with fail;go_roundw;case rel=>exact⟨k+1,by omega,by omega,by go_num,HB1.out,by unfold Hid;rw[hS.out,HS.out];simp⟩
        case measure=>simp[intOf];omega
      · have hbx:(x != 0)=true:=by rw[bne_iff_ne];exact hx
        have HE:Hid (vQ ss ts=x):=by unfold Hid;rw[hS.out,HS.out,if_neg hx]
        clear hx;go_wp2_with fail;go_ret;exact⟨xB HE.out.symm,HB1.out⟩
    · have HE:Hid (vQ ss ts=1):=by unfold Hid;rw[hS.out,zIT _ _ (fun he=>by have:=congrArg List.length he;rw[List.length_drop,Hlen.out]at this;simp at this;omega) (List.drop_of_length_le (by rw[Hlen'.out];omega))]
      obtain⟨b,o,rfl,hbB,hcell⟩:=(Hh.out.later HB.out).2 (by omega);have hck:=hcell k hlt;clear hcell;go_wp2_with fail;go_ret;exact⟨xB HE.out.symm,HB.out⟩
  · have HE:Hid (vQ ss ts=if n<n' then -1 else 0):=by
     unfold Hid;obtain rfl:k=n:=by omega
     rw[hS.out,zJM _ _ (List.drop_of_length_le (by rw[Hlen.out];omega)),List.length_drop,List.length_drop,Hlen.out,Hlen'.out];by_cases hc:k<n'
     · rw[if_pos (by omega),if_pos hc]
     · rw[if_neg (by omega),if_neg hc]
    by_cases hc:n<n'
    all_goals
     go_wp2_with fail;go_ret;exact⟨xB (by rw[HE.out];first | rw[if_pos hc] | rw[if_neg hc]),HB.out⟩
theorem xY (A A':Option Addr) (n c n' c':Nat) (ss ts:List ByteArray) (w:World) (htab:uG w) (h:Strs w w.heap.size A n ss) (h':Strs w w.heap.size A' n' ts) (hn:n≤1048576) (hn':n'≤1048576)
 (hz:∀s∈ss,s.size≤1048576) (hz':∀s∈ts,s.size≤1048576) :
 Calls Tryz.prog 192 #[.slice A n c,.slice A' n' c'] w fun e w'=>e=.returned (.int .i64 (vQ ss ts))∧Below w.heap.size w w':=by
 have HK:=zh (zCl A A' n c n' c' ss ts w htab h h' hn hn' hz hz');clear htab h h' hz hz';generalize vQ ss ts=x at *;go_enter Tryz.func192,Tryz.ntmps192;go_wp2_with fail;refine HK.out.mono ?_;rintro e w1 ⟨rfl,hb1⟩;have HB1:=zh hb1;clear hb1;go_wp2_with fail;go_ret;exact⟨rfl,HB1.out⟩
theorem zKD (g:Nat) (x y:Int) (w:World) (c0:w.cell? ⟨g,0,none⟩=some (.int .i64 x)) (c1:w.cell? ⟨g,1,none⟩=some (.int .i64 y)) :
 Calls Tryz.prog 190 #[.slice (some ⟨g,0,none⟩) 2 2] w fun e w'=>e=.returned (.int .i64 (orI x y))∧w=w':=by
 have HR:Hid (orI x y=if x=0 then y else x):=rfl;generalize orI x y=R at *;go_enter Tryz.func190,Tryz.ntmps190;go_wp2_with fail;refine wp_loop_rounds 3 ?_;rw[rounds_succ];by_cases hx:x=0
 · subst hx;go_wp2_with fail;rw[rounds_succ];by_cases hy:y=0
   · subst hy;go_wp2_with fail;rw[rounds_succ];go_wp2_with fail;go_ret;exact⟨xB (by rw[HR.out];rfl),rfl⟩
   · have hb:(y != 0)=true:=by rw[bne_iff_ne];exact hy
     clear hy;go_wp2_with fail;go_ret;exact⟨xB (by rw[HR.out];rfl),rfl⟩
 · have hb:(x != 0)=true:=by rw[bne_iff_ne];exact hx
   have HE:Hid (R=x):=by unfold Hid;rw[HR.out,if_neg hx]
   clear hx;go_wp2_with fail;go_ret;exact⟨xB HE.out.symm,rfl⟩
end Go.Proofs.YtgmaamnofhmecaaGreatDoor
namespace Go.Proofs.YtgmaamnofhmecaaGreatDoor
open Go.RowKit
theorem zKx (w:World) (x y:Value) (t:TypeId):(w.alloc (.cells #[x,y] t)).cell? ⟨w.heap.size,0,none⟩=some x:=cell_of_row _ w.heap.size 0 #[x,y] t (0,0) (heap_alloc_new w _)
theorem zKw (w:World) (x y:Value) (t:TypeId):(w.alloc (.cells #[x,y] t)).cell? ⟨w.heap.size,1,none⟩=some y:=cell_of_row _ w.heap.size 1 #[x,y] t (0,0) (heap_alloc_new w _)
theorem wQ (nm nm':ByteArray) (A A':Option Addr) (n c n' c':Nat) (ss ts:List ByteArray) (w:World) (htab:uG w) (h:Strs w w.heap.size A n ss) (h':Strs w w.heap.size A' n' ts) (hn:n≤1048576) (hn':n'≤1048576)
 (hz:∀s∈ss,s.size≤1048576) (hz':∀s∈ts,s.size≤1048576) :
 Calls Tryz.prog 125 #[.string nm,.slice A n c,.string nm',.slice A' n' c'] w fun e w'=>e=.returned (.int .i64 (zP0 nm ss nm' ts))∧Below w.heap.size w w':=by
 have HK1:=zh (zGI nm nm' w);have HK2:=zh (xY A A' n c n' c' ss ts w htab h h' hn hn' hz hz');have HR:Hid (zP0 nm ss nm' ts=orI (zAH nm nm') (vQ ss ts)):=rfl;clear htab h h' hz hz';generalize zP0 nm ss nm' ts=R at *;generalize zAH nm nm'=x at *;generalize vQ ss ts=y at *;go_enter Tryz.func125,Tryz.ntmps125;go_wp2_with fail;refine HK1.out.mono ?_;rintro e w1 ⟨rfl,rfl⟩;go_wp2_with fail;refine HK2.out.mono ?_;rintro e w1 ⟨rfl,hb1⟩;have HB1:=zh hb1;clear hb1;go_wp2_with fail;refine(zKD _ x y _ (zKx _ _ _ _) (zKw _ _ _ _)).mono ?_;rintro e w2 ⟨rfl,rfl⟩;go_wp2_with fail;go_ret;exact⟨xB HR.out.symm,HB1.out.later (Below.new _ _)⟩
theorem zKo {ss ts:List ByteArray} (h:ss.length≠ts.length):eqS ss ts=false:=by
 unfold eqS;rw[decide_eq_false_iff_not];rintro rfl;exact h rfl
theorem zL0 (A A':Option Addr) (n c n' c':Nat) (ss ts:List ByteArray) (w:World) (h:Strs w w.heap.size A n ss) (h':Strs w w.heap.size A' n' ts) (hn:n≤1048576) (hn':n'≤1048576) :
 Calls Tryz.prog 209 #[.slice A n c,.slice A' n' c'] w fun e w'=>e=.returned (.bool (eqS ss ts))∧∃q,w'=w.drewN q:=by
 obtain⟨hlen,hc⟩:=h;obtain⟨hlen',hc'⟩:=h';have Hc:=zh hc;have Hlen:=zh hlen;have Hc':=zh hc';have Hlen':=zh hlen';clear hc hlen hc' hlen';by_cases hne:n=n'
 · subst hne;have hE:=zAc ss ts;rw[Hlen.out,Hlen'.out]at hE;have HE:Hid (eqS ss ts=yB ss ts):=by unfold Hid;rw[←hE];simp
   clear hE;go_enter Tryz.func209,Tryz.ntmps209;go_wp2_with fail;go_loopw [13] (fun i wr=>∃(k:Nat),k≤n∧i=.int .i64 k∧(∃q,wr=w.drewN q)∧Hid (yB ss ts=yB (ss.drop k) (ts.drop k))) (fun i _=>n-(intOf i).toNat);case atStart=>exact⟨0,Nat.zero_le _,rfl,⟨0,rfl⟩,rfl⟩
   case round =>
    obtain⟨k,hk,rfl,⟨q,rfl⟩,hS⟩:=hrel;by_cases hlt:k<n
    · obtain⟨b,o,rfl,hb,hcell⟩:=Hc.out (by omega);obtain⟨b',o',rfl,hb',hcell'⟩:=Hc'.out (by omega);have hck:=hcell k hlt;have hck':=hcell' k (by omega);clear hcell hcell';have HS:=zh (xZ ss ts k (by rw[Hlen.out];exact hlt) (by rw[Hlen'.out];omega));generalize ss.getD k ByteArray.empty=s at *;generalize ts.getD k ByteArray.empty=t at *;go_wp2_with fail
      go_quiet (fail)
      go_wp2_with fail
      · go_ret;have hst:s≠t:=zEZ (by assumption);exact⟨zA0 (by rw[HE.out,hS.out,HS.out,decide_eq_false hst];rfl),_,World.drewN_drewN _ _ _⟩
      · go_roundw;case rel=>have hst:s=t:=zFb (by assumption);exact⟨k+1,by omega,by go_num,⟨_,rfl⟩,by unfold Hid;rw[hS.out,HS.out,decide_eq_true hst];rfl⟩
        case measure=>simp[intOf];omega
    · go_wp2_with fail;go_ret;exact⟨zA0 (by rw[HE.out,hS.out,List.drop_of_length_le (by rw[Hlen.out];omega),zAs]),_,rfl⟩
 · have HE:Hid (eqS ss ts=false):=zKo (by rw[Hlen.out,Hlen'.out];exact hne);have hb:((n:Int) != (n':Int))=true:=by rw[bne_iff_ne];omega
   have hb2:(n != n')=true:=by rw[bne_iff_ne];omega
   clear hne;go_enter Tryz.func209,Tryz.ntmps209;go_wp2_with fail;go_ret;exact⟨zA0 HE.out.symm,0,rfl⟩
theorem Strs.take {w:World} {B n:Nat} {A:Option Addr} {ss:List ByteArray} (h:Strs w B A n ss) (m:Nat) (hm:m≤n):Strs w B A m (ss.take m) :=
 ⟨by rw[List.length_take,h.1];omega,fun hp=>by
   obtain⟨b,o,e,hb,hc⟩:=h.2 (by omega);refine⟨b,o,e,hb,fun j hj=>?_⟩;rw[hc j (by omega)]
   simp[List.getD_eq_getElem?_getD,hj]⟩
theorem wR:∀(a b:List ByteArray),(decide (a.length≤b.length)&&eqS (b.take a.length) a)=yB a b
 | [],b=>by simp[yB,eqS]
 | x::r,[]=>by simp[yB]
 | x::r,y::s=>by
   have:=wR r s;simp only[yB,List.length_cons,List.take_succ_cons];rw[←this];unfold eqS;by_cases hx:x=y
   · subst hx;simp
   · have hyx:¬y=x:=fun h=>hx h.symm;simp[hx,hyx]
theorem zHM (A A':Option Addr) (n c n' c':Nat) (ss ts:List ByteArray) (w:World) (h:Strs w w.heap.size A n ss) (h':Strs w w.heap.size A' n' ts) (hn':n'≤1048576) (hc:n≤c) :
 Calls Tryz.prog 267 #[.slice A n c,.slice A' n' c'] w fun e w'=>e=.returned (.bool (yB ts ss))∧∃q,w'=w.drewN q:=by
 have hE:=wR ts ss;rw[h.1,h'.1]at hE;by_cases hle:n'≤n
 · have HK:=zh (zL0 A A' n' c n' c' (ss.take n') ts w (h.take n' hle) h' (by omega) hn');have HE:Hid (eqS (ss.take n') ts=yB ts ss):=by unfold Hid;rw[←hE];simp[hle]
   clear h h' hE;generalize eqS (ss.take n') ts=x at *;go_enter Tryz.func267,Tryz.ntmps267;go_wp2_with fail;refine HK.out.mono ?_;rintro e w1 ⟨rfl,q,rfl⟩;go_wp2_with fail;go_ret;exact⟨zA0 HE.out,q,rfl⟩
 · have HE:Hid (false=yB ts ss):=by unfold Hid;rw[←hE];simp[hle]
   clear h h' hE;go_enter Tryz.func267,Tryz.ntmps267;go_wp2_with fail;go_ret;exact⟨zA0 HE.out,0,rfl⟩
end Go.Proofs.YtgmaamnofhmecaaGreatDoor
